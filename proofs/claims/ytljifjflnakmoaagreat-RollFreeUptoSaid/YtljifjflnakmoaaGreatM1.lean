/- Part. -/
import Derived.Conc.Beside
import Derived.Test.YtljifjflnakmoaaGreatHxX
import Derived.Conc.CrowdRun
import Derived.Conc.WgGenN3
import Derived.Test.YtljifjflnakmoaaGreatHxA
import Derived.Test.YtljifjflnakmoaaGreatHxR
import Derived.Room.Entries
import Derived.Laws.LoneSync
import Derived.Test.YtljifjflnakmoaaGreatHxZ
import Derived.Test.YtljifjflnakmoaaGreatChecked
import Derived.Test.YtljifjflnakmoaaGreatHxB
set_option linter.unusedVariables false
set_option linter.unusedSimpArgs false
set_option linter.unusedSectionVars false
set_option maxRecDepth 100000
set_option maxHeartbeats 2000000
namespace Go.Gx
open Go Go.Conc Go.ConcN
structure Pl where
 Sh:Loc→Prop
 Own:Nat→Loc→Prop
 Rd:Nat→Loc→Prop
 Fr:Loc→Prop
 Mn:Loc→Prop
 At:Loc→Prop
structure Pl.OK (p:Pl) (j:Nat):Prop where
 own:∀ k k' l,k < j→k' < j→p.Own k l→p.Own k' l→k = k'
 ownRd:∀ k k' l,k < j→k' < j→p.Own k l→¬ p.Rd k' l
 ownMn:∀ k l,k < j→p.Own k l→¬ p.Mn l
 ownFr:∀ k l,k < j→p.Own k l→¬ p.Fr l
 rdFr:∀ k l,k < j→p.Rd k l→¬ p.Fr l
 ownSh:∀ k l,k < j→p.Own k l→¬ p.Sh l
 rdSh:∀ k l,k < j→p.Rd k l→¬ p.Sh l
 frSh:∀ l,p.Fr l→¬ p.Sh l
 mnSh:∀ l,p.Mn l→¬ p.Sh l
 atSh:∀ l,p.At l→¬ p.Sh l
 ownAt:∀ k l,k < j→p.Own k l→¬ p.At l
 rdAt:∀ k l,k < j→p.Rd k l→¬ p.At l
 mnAt:∀ l,p.Mn l→¬ p.At l
 frAt:∀ l,p.Fr l→¬ p.At l
def Pl.Ok0 (p:Pl) (op:MemOp):Prop:=op.g = 0 ∧ ∀ x,op.act.touch? = some x→(p.Sh x.loc ∧ x.kind ≠ .plain) ∨ (p.Mn x.loc ∧ (x.write = true→p.Fr x.loc))
def Pl.OkW (p:Pl) (base k:Nat) (op:MemOp):Prop:=op.g = base + k ∧ ∀ x,op.act.touch? = some x→(p.Sh x.loc ∧ x.kind ≠ .plain ∧ x.kind ≠ .said) ∨ (p.Own k x.loc ∧ x.kind ≠ .said) ∨ (p.Rd k x.loc ∧ x.write = false ∧ x.kind ≠ .said) ∨ (p.At x.loc ∧ x.kind = .atomic)
def Still (u:Trace):Prop:=∀ op ∈ u,op.act ≠ .mark .disable ∧ op.act ≠ .mark .enable
theorem deaf_mid {t u:Trace} {g:Nat} (hu:Still u):∀ m:Nat,(t ++ u).deaf g (t.size + m) = Deaf t g
 | 0=>deaf_old (Nat.le_refl _)
 | m + 1=>by
   have ih:=deaf_mid (t:=t) (g:=g) hu m;show Trace.deaf (t ++ u) g ((t.size + m) + 1) = _;unfold Trace.deaf;split
   ·rename_i h hh
    rcases getElem?_append_cases hh with ⟨h1,_⟩ | ⟨_,h1⟩
    ·omega
    ·exact absurd rfl (hu _ h1).1
   ·rename_i h hh
    rcases getElem?_append_cases hh with ⟨h1,_⟩ | ⟨_,h1⟩
    ·omega
    ·exact absurd rfl (hu _ h1).2
   ·exact ih
def uG (t:Trace) (g:Nat) (l:Loc):Prop:=∀ i a,touchAt t i = some a→a.loc = l→a.kind ≠ .atomic→Knows t g i
theorem uG.of {t:Trace} {g:Nat} {l:Loc} (h:Perm t g l):uG t g l:=fun i a ha hl _=>h i a ha hl
theorem uG.app {t u:Trace} {g:Nat} {l:Loc} (h:uG t g l) (hu:∀ op ∈ u,∀ b,op.act.touch? = some b→b.loc = l→b.kind ≠ .atomic→op.g = g):uG (t ++ u) g l:=by
 intro i a ha hl hk;obtain ⟨x,hx,hxa⟩:=touch_of ha
 rcases getElem?_append_cases hx with ⟨hi,hx'⟩ | ⟨_,hxu⟩
 ·exact (h i a (by rw [touchAt_of hx']; exact hxa) hl hk).app u
 ·rw [← hu x hxu a hxa hl hk];exact knows_own hx
structure CTP (p:Pl) (base:Nat) (Shun:Loc→Prop) (B j:Nat) (t:Trace):Prop where
 pos:0 < base
 quiet:Quiet p.Sh t
 own:∀ k,k < j→∀ l,p.Own k l→Perm t (base + k) l
 rd:∀ k,k < j→∀ l,p.Rd k l→PermW t (base + k) l
 free:∀ l,p.Fr l→Perm t 0 l
 mine:∀ l,p.Mn l→PermW t 0 l
 nr:∀ said,¬ Race said t
 gs:∀ (i:Nat) (op:MemOp),t[i]? = some op→op.g < base + j
 old:∀ i a g,t.g? i = some g→g < base→touchAt t i = some a→a.loc.isMemory = true→Knows t 0 i ∨ (Shun a.loc ∧ a.kind = .atomic)
 atm:∀ i a g,t.g? i = some g→base ≤ g→touchAt t i = some a→a.kind = .atomic→p.Sh a.loc ∨ t.heard i
 said:∀ i a g,t.g? i = some g→base ≤ g→touchAt t i = some a→a.kind ≠ .said
 over:∀ i g,t.g? i = some g→g ≠ 0→g < base→t.counts i→∃ q,t.g? q = some 0 ∧ HappensBefore t i q
 seen:∀ op ∈ t,op.act.low B
 ata:∀ k,k < j→∀ l,p.At l→uG t (base + k) l
 at0:∀ l,p.At l→uG t 0 l
section
variable {p:Pl} {base:Nat} {Shun:Loc→Prop} {B j:Nat} {t u:Trace}
theorem rD {i:Nat} {op:MemOp} (h:t[i]? = some op):t.g? i = some op.g:=by simp [Trace.g?,h]
theorem gu {i g:Nat} (h:(t ++ u).g? i = some g):(i < t.size ∧ t.g? i = some g) ∨ (t.size ≤ i ∧ ∃ op ∈ u,(t ++ u)[i]? = some op ∧ op.g = g):=by
 obtain ⟨op,ho,hg⟩:=Option.map_eq_some_iff.1 h
 rcases getElem?_append_cases ho with ⟨hl,ho'⟩ | ⟨hl,hou⟩
 ·exact .inl ⟨hl,by rw [rD ho',hg]⟩
 ·exact .inr ⟨hl,op,hou,ho,hg⟩
theorem CTP.tz (h:CTP p base Shun B j t) (hu:∀ op ∈ u,op.g = 0 ∨ op.act.touch? = none ∨ base ≤ op.g) :
 (∀ i a g,(t ++ u).g? i = some g→g < base→touchAt (t ++ u) i = some a→a.loc.isMemory = true→Knows (t ++ u) 0 i ∨ (Shun a.loc ∧ a.kind = .atomic)) ∧
 (∀ i g,(t ++ u).g? i = some g→g ≠ 0→g < base→(t ++ u).counts i→∃ q,(t ++ u).g? q = some 0 ∧ HappensBefore (t ++ u) i q):=by
 constructor
 ·intro i a g hg hlt ha hm
  rcases gu hg with ⟨hl,hg'⟩ | ⟨hl,op,hou,hop,rfl⟩
  ·exact (h.old i a g hg' hlt (by rw [← touchAt_old (u:=u) hl]; exact ha) hm).imp (·.app u) id
  ·rcases hu op hou with h0 | h0 | h0
   ·have:=knows_own hop;rw [h0] at this;exact .inl this
   ·rw [touchAt_of hop,h0] at ha; cases ha
   ·omega
 ·intro i g hg hne hlt hc
  rcases gu hg with ⟨hl,hg'⟩ | ⟨hl,op,hou,hop,rfl⟩
  ·obtain ⟨q,hq,hb⟩:=h.over i g hg' hne hlt ((counts_old hl).1 hc);have hql:q < t.size:=by
    obtain ⟨z,hz,_⟩:=Option.map_eq_some_iff.1 hq;exact lt_size_of_getElem? hz
   exact ⟨q,by rw [g?_old hql]; exact hq,hb_app u hb⟩
  ·rcases hu op hou with h0 | h0 | h0
   ·exact absurd h0 hne
   ·obtain ⟨x,hx,_⟩:=hc;have:touchAt (t ++ u) i = some x:=hx;rw [touchAt_of hop,h0] at this; cases this
   ·omega
theorem CTP.app0 (A:p.OK j) (h:CTP p base Shun B j t) (hu:∀ op ∈ u,p.Ok0 op) (hl:∀ op ∈ u,op.act.low B):CTP p base Shun B j (t ++ u):=by
 obtain ⟨o1,o2⟩:=h.tz (u:=u) fun op hop=>.inl (hu op hop).1
 refine ⟨h.pos,h.quiet.app fun op hop x hx hs=>?_,fun k kj l hl=>(h.own k kj l hl).app fun op hop b hb e=>?_,fun k kj l hl=>(h.rd k kj l hl).app fun op hop b hb e hw=>?_,
  fun l hl=>(h.free l hl).app fun op hop _ _ _=>(hu op hop).1,fun l hl=>(h.mine l hl).app fun op hop _ _ _ _=>(hu op hop).1,fun said=>?_,fun i op hi=>?_,o1,fun i a g hg hb ha hk=>?_,fun i a g hg hb ha=>?_,o2,seen_app h.seen hl,fun k kj l hl=>(h.ata k kj l hl).app fun op hop b hb e _=>?_,fun l hl=>(h.at0 l hl).app fun op hop _ _ _ _=>(hu op hop).1⟩
 ·rcases (hu op hop).2 x hx with ⟨_,hk⟩ | ⟨hn,_⟩
  ·exact ⟨hk,fun _=>(hu op hop).1⟩
  ·exact absurd hs (A.mnSh _ hn)
 ·rcases (hu op hop).2 b hb with ⟨hs,_⟩ | ⟨hn,_⟩
  ·exact absurd (e ▸ hs) (A.ownSh k l kj hl)
  ·exact absurd (e ▸ hn) (A.ownMn k l kj hl)
 ·rcases (hu op hop).2 b hb with ⟨hs,_⟩ | ⟨_,hn⟩
  ·exact absurd (e ▸ hs) (A.rdSh k l kj hl)
  ·exact absurd (e ▸ hn hw) (A.rdFr k l kj hl)
 ·refine noRace_append (h.nr said) (fun op hop=>(hu op hop).1) (fun i a ha op hop b hb hc=>?_)
  rcases (hu op hop).2 b hb with ⟨hs,hk⟩ | ⟨hm,hf⟩
  ·exact h.quiet.known hs hk (fun _=>rfl) i a ha hc
  ·cases hbw:b.write with
   | true=>exact h.free b.loc (hf hbw) i a ha hc.1
   | false=>exact h.mine b.loc hm i a ha hc.1 (hc.2.2.1.resolve_right (by simp [hbw]))
 ·rcases getElem?_append_cases hi with ⟨_,hi'⟩ | ⟨_,hiu⟩
  ·exact h.gs i op hi'
  ·rw [(hu op hiu).1]; have:=h.pos; omega
 ·rcases gu hg with ⟨hl,hg'⟩ | ⟨hl,op,hou,hop,rfl⟩
  ·exact (h.atm i a g hg' hb (by rw [← touchAt_old (u:=u) hl]; exact ha) hk).imp id (heard_old hl).2
  ·rw [(hu op hou).1] at hb; have:=h.pos; omega
 ·rcases gu hg with ⟨hl,hg'⟩ | ⟨hl,op,hou,hop,rfl⟩
  ·exact h.said i a g hg' hb (by rw [← touchAt_old (u:=u) hl]; exact ha)
  ·rw [(hu op hou).1] at hb; have:=h.pos; omega
 ·rcases (hu op hop).2 b hb with ⟨hs,_⟩ | ⟨hn,_⟩
  ·exact absurd hs (A.atSh _ (e ▸ hl))
  ·exact absurd (e ▸ hl) (A.mnAt _ hn)
theorem CTP.appW (A:p.OK j) (h:CTP p base Shun B j t) {k:Nat} (kj:k < j) (hu:∀ op ∈ u,p.OkW base k op) (hl:∀ op ∈ u,op.act.low B) (hd:(∀ op ∈ u,∀ x,op.act.touch? = some x→x.kind = .atomic→p.Sh x.loc) ∨ (Deaf t (base + k) = 0 ∧ Still u)):CTP p base Shun B j (t ++ u):=by
 have hp:=h.pos;obtain ⟨o1,o2⟩:=h.tz (u:=u) fun op hop=>.inr (.inr (by rw [(hu op hop).1]; omega))
 refine ⟨h.pos,h.quiet.app fun op hop x hx hs=>?_,fun k' kj' l hl=>(h.own k' kj' l hl).app fun op hop b hb e=>?_,fun k' kj' l hl=>(h.rd k' kj' l hl).app fun op hop b hb e hw=>?_,
  fun l hl=>(h.free l hl).app fun op hop b hb e=>?_,fun l hl=>(h.mine l hl).app fun op hop b hb e hw=>?_,fun said=>?_,fun i op hi=>?_,o1,fun i a g hg hb ha hk=>?_,fun i a g hg hb ha=>?_,o2,seen_app h.seen hl,fun k' kj' l hl=>(h.ata k' kj' l hl).app fun op hop b hb e hk=>?_,fun l hl=>(h.at0 l hl).app fun op hop b hb e hk=>?_⟩
 ·rcases (hu op hop).2 x hx with ⟨_,hk,hn⟩ | ⟨ho,_⟩ | ⟨hr,_,_⟩ | ⟨hr,_⟩
  ·exact ⟨hk,fun e=>absurd e hn⟩
  ·exact absurd hs (A.ownSh k _ kj ho)
  ·exact absurd hs (A.rdSh k _ kj hr)
  ·exact absurd hs (A.atSh _ hr)
 ·rcases (hu op hop).2 b hb with ⟨hs,_⟩ | ⟨ho,_⟩ | ⟨hr,_,_⟩ | ⟨hr,_⟩
  ·exact absurd (e ▸ hs) (A.ownSh k' l kj' hl)
  ·rw [(hu op hop).1,A.own k k' l kj kj' (e ▸ ho) hl]
  ·exact absurd (e ▸ hr) (A.ownRd k' k l kj' kj hl)
  ·exact absurd (e ▸ hr) (A.ownAt k' l kj' hl)
 ·rcases (hu op hop).2 b hb with ⟨hs,_⟩ | ⟨ho,_⟩ | ⟨_,hr,_⟩ | ⟨hr,_⟩
  ·exact absurd (e ▸ hs) (A.rdSh k' l kj' hl)
  ·exact absurd hl (A.ownRd k k' l kj kj' (e ▸ ho))
  ·rw [hr] at hw; cases hw
  ·exact absurd (e ▸ hr) (A.rdAt k' l kj' hl)
 ·rcases (hu op hop).2 b hb with ⟨hs',_⟩ | ⟨ho,_⟩ | ⟨hr,_,_⟩ | ⟨hr,_⟩
  ·exact absurd (e ▸ hs') (A.frSh _ hl)
  ·exact absurd hl (A.ownFr k l kj (e ▸ ho))
  ·exact absurd hl (A.rdFr k l kj (e ▸ hr))
  ·exact absurd (e ▸ hr) (A.frAt _ hl)
 ·rcases (hu op hop).2 b hb with ⟨hs',_⟩ | ⟨ho,_⟩ | ⟨_,hr,_⟩ | ⟨hr,_⟩
  ·exact absurd (e ▸ hs') (A.mnSh _ hl)
  ·exact absurd hl (A.ownMn k l kj (e ▸ ho))
  ·rw [hr] at hw; cases hw
  ·exact absurd (e ▸ hr) (A.mnAt _ hl)
 ·refine noRace_append (h.nr said) (fun op hop=>(hu op hop).1) (fun i a ha op hop b hb hc=>?_)
  rcases (hu op hop).2 b hb with ⟨hs,hk,hn⟩ | ⟨ho,_⟩ | ⟨hr,hbw,_⟩ | ⟨hr,hbk⟩
  ·exact h.quiet.known hs hk (fun e=>absurd e hn) i a ha hc
  ·exact h.own k kj b.loc ho i a ha hc.1
  ·exact h.rd k kj b.loc hr i a ha hc.1 (hc.2.2.1.resolve_right (by simp [hbw]))
  ·exact h.ata k kj b.loc hr i a ha hc.1 fun hak=>by simp [Touch.conflicts,hak,hbk] at hc
 ·rcases getElem?_append_cases hi with ⟨_,hi'⟩ | ⟨_,hiu⟩
  ·exact h.gs i op hi'
  ·rw [(hu op hiu).1]; omega
 ·rcases gu hg with ⟨hl,hg'⟩ | ⟨hl,op,hou,hop,rfl⟩
  ·exact (h.atm i a g hg' hb (by rw [← touchAt_old (u:=u) hl]; exact ha) hk).imp id (heard_old hl).2
  ·rw [touchAt_of hop] at ha
   rcases hd with hd | ⟨hd,hst⟩
   ·exact .inl (hd op hou a ha hk)
   ·refine .inr ⟨op.g,rD hop,?_⟩;obtain ⟨m,rfl⟩:∃ m,i = t.size + m:=⟨i - t.size,by omega⟩;rw [deaf_mid hst,(hu op hou).1,hd]
 ·rcases gu hg with ⟨hl,hg'⟩ | ⟨hl,op,hou,hop,rfl⟩
  ·exact h.said i a g hg' hb (by rw [← touchAt_old (u:=u) hl]; exact ha)
  ·rw [touchAt_of hop] at ha
   rcases (hu op hou).2 a ha with ⟨_,_,hs⟩ | ⟨_,ho⟩ | ⟨_,_,ho⟩ | ⟨_,ho⟩
   ·exact hs
   ·exact ho
   ·exact ho
   ·rw [ho]; simp
 ·rcases (hu op hop).2 b hb with ⟨hs,_⟩ | ⟨ho,_⟩ | ⟨hr,_,_⟩ | ⟨_,ho⟩
  ·exact absurd (e ▸ hs) (A.atSh _ hl)
  ·exact absurd (e ▸ hl) (A.ownAt k _ kj ho)
  ·exact absurd (e ▸ hl) (A.rdAt k _ kj hr)
  ·exact absurd ho hk
 ·rcases (hu op hop).2 b hb with ⟨hs,_⟩ | ⟨ho,_⟩ | ⟨hr,_,_⟩ | ⟨_,ho⟩
  ·exact absurd (e ▸ hs) (A.atSh _ hl)
  ·exact absurd (e ▸ hl) (A.ownAt k _ kj ho)
  ·exact absurd (e ▸ hl) (A.rdAt k _ kj hr)
  ·exact absurd ho hk
theorem CTP.appMute (h:CTP p base Shun B j t) {g:Nat} (hg:g < base + j) (hu:∀ op ∈ u,op.g = g ∧ op.act.touch? = none) (hl:∀ op ∈ u,op.act.low B):CTP p base Shun B j (t ++ u):=by
 obtain ⟨o1,o2⟩:=h.tz (u:=u) fun op hop=>.inr (.inl (hu op hop).2)
 have nt:∀ op ∈ u,∀ b,op.act.touch? = some b→False:=fun op hop b hb=>by rw [(hu op hop).2] at hb; cases hb
 refine ⟨h.pos,h.quiet.app fun op hop x hx hs=>(nt op hop x hx).elim,fun k' kj' l hl=>(h.own k' kj' l hl).app fun op hop b hb e=>(nt op hop b hb).elim,fun k' kj' l hl=>(h.rd k' kj' l hl).app fun op hop b hb e hw=>(nt op hop b hb).elim,
  fun l hl=>(h.free l hl).app fun op hop b hb e=>(nt op hop b hb).elim,fun l hl=>(h.mine l hl).app fun op hop b hb e hw=>(nt op hop b hb).elim,fun said=>?_,fun i op hi=>?_,o1,fun i a g hg hb ha hk=>?_,fun i a g hg hb ha=>?_,o2,seen_app h.seen hl,fun k' kj' l hl=>(h.ata k' kj' l hl).app fun op hop b hb e hk=>(nt op hop b hb).elim,fun l hl=>(h.at0 l hl).app fun op hop b hb e hk=>(nt op hop b hb).elim⟩
 ·exact noRace_append (h.nr said) (fun op hop=>(hu op hop).1) (fun i a ha op hop b hb hc=>(nt op hop b hb).elim)
 ·rcases getElem?_append_cases hi with ⟨_,hi'⟩ | ⟨_,hiu⟩
  ·exact h.gs i op hi'
  ·rw [(hu op hiu).1]; exact hg
 ·rcases gu hg with ⟨hl,hg'⟩ | ⟨hl,op,hou,hop,rfl⟩
  ·exact (h.atm i a g hg' hb (by rw [← touchAt_old (u:=u) hl]; exact ha) hk).imp id (heard_old hl).2
  ·rw [touchAt_of hop] at ha; exact (nt op hou a ha).elim
 ·rcases gu hg with ⟨hl,hg'⟩ | ⟨hl,op,hou,hop,rfl⟩
  ·exact h.said i a g hg' hb (by rw [← touchAt_old (u:=u) hl]; exact ha)
  ·rw [touchAt_of hop] at ha; exact (nt op hou a ha).elim
def mr (t:Trace) (l:Loc):Prop:=∀ i a,touchAt t i = some a→a.loc ≠ l
theorem mr.perm {l:Loc} (h:mr t l) (g:Nat):Perm t g l:=fun i a ha e=>absurd e (h i a ha)
theorem CTP.change {p':Pl} {B':Nat} (h:CTP p base Shun B j t) (hS:∀ l,p'.Sh l ↔ p.Sh l) (hO:∀ k,k < j→∀ l,p'.Own k l→p.Own k l ∨ mr t l) (hR:∀ k,k < j→∀ l,p'.Rd k l→p.Rd k l ∨ mr t l)
 (hF:∀ l,p'.Fr l→p.Fr l ∨ mr t l) (hM:∀ l,p'.Mn l→p.Mn l ∨ mr t l) (hA:∀ l,p'.At l→p.At l) (hB:B ≤ B'):CTP p' base Shun B' j t :=
 ⟨h.pos,fun i op x hi hx hs=>h.quiet i op x hi hx ((hS _).1 hs),fun k kj l hl=>(hO k kj l hl).elim (h.own k kj l) (·.perm _),fun k kj l hl=>(hR k kj l hl).elim (h.rd k kj l) (fun f=>.of (f.perm _)),
  fun l hl=>(hF l hl).elim (h.free l) (·.perm _),fun l hl=>(hM l hl).elim (h.mine l) (fun f=>.of (f.perm _)),h.nr,h.gs,h.old,fun i a g h1 h2 h3 h4=>(h.atm i a g h1 h2 h3 h4).imp (hS _).2 id,h.said,h.over,fun op hop=>MemAct.low_mono hB (h.seen op hop),fun k kj l hl=>h.ata k kj l (hA l hl),fun l hl=>h.at0 l (hA l hl)⟩
theorem CTP.fork {p':Pl} (h:CTP p base Shun B j t) {x y:MemOp} (hx:x.g = 0 ∧ x.act = .go (base + j)) (hy:y.g = base + j ∧ y.act = .start) (h0:Deaf t 0 = 0)
 (hS:∀ l,p'.Sh l ↔ p.Sh l) (hO:∀ k,k < j→∀ l,p'.Own k l→p.Own k l) (hR:∀ k,k < j→∀ l,p'.Rd k l→p.Rd k l) (hOj:∀ l,p'.Own j l→p.Fr l) (hRj:∀ l,p'.Rd j l→p.Mn l)
 (hF:∀ l,p'.Fr l→p.Fr l) (hM:∀ l,p'.Mn l→p.Mn l) (hA:∀ l,p'.At l→p.At l):CTP p' base Shun B (j + 1) (t ++ #[x,y]):=by
 have hk:Deaf t (base + j) = 0:=Deaf_absent fun i op hi e=>by have:=h.gs i op hi; omega
 have hm:∀ op ∈ #[x,y],op = x ∨ op = y:=by intro op hop; simpa using hop
 have hnt:∀ op ∈ #[x,y],op.act.touch? = none:=by
  intro op hop
  rcases hm op hop with rfl | rfl
  ·rw [hx.2]; rfl
  ·rw [hy.2]; rfl
 have nt:∀ op ∈ #[x,y],∀ b,op.act.touch? = some b→False:=fun op hop b hb=>by rw [hnt op hop] at hb; cases hb
 have old:∀ {i:Nat} {a:Touch},touchAt (t ++ #[x,y]) i = some a→touchAt t i = some a:=by
  intro i a ha;obtain ⟨z,hz,hza⟩:=touch_of ha
  rcases getElem?_append_cases hz with ⟨_,hz'⟩ | ⟨_,hzu⟩
  ·rw [touchAt_of hz']; exact hza
  ·exact (nt z hzu a hza).elim
 obtain ⟨o1,o2⟩:=h.tz (u:=#[x,y]) fun op hop=>.inr (.inl (hnt op hop))
 refine ⟨h.pos,fun i op z hi hz hs=>?_,fun k kj l hl=>?_,fun k kj l hl=>?_,
  fun l hl=>(h.free l (hF l hl)).app fun op hop b hb _=>(nt op hop b hb).elim,fun l hl=>(h.mine l (hM l hl)).app fun op hop b hb _ _=>(nt op hop b hb).elim,fun said=>?_,fun i op hi=>?_,o1,fun i a g hg hb ha hk'=>?_,fun i a g hg hb ha=>?_,o2,seen_app h.seen fun op hop=>?_,fun k kj l hl=>?_,fun l hl=>(h.at0 l (hA l hl)).app fun op hop b hb _ _=>(nt op hop b hb).elim⟩
 ·exact h.quiet.app (fun op hop b hb _=>(nt op hop b hb).elim) i op z hi hz ((hS _).1 hs)
 ·rcases Nat.lt_or_ge k j with hlt | hge
  ·exact (h.own k hlt l (hO k hlt l hl)).app fun op hop b hb _=>(nt op hop b hb).elim
  ·obtain rfl:k = j:=by omega
   exact fun i a ha e=>fork_knows hx hy h0 hk (h.free l (hOj l hl) i a (old ha) e)
 ·rcases Nat.lt_or_ge k j with hlt | hge
  ·exact (h.rd k hlt l (hR k hlt l hl)).app fun op hop b hb _ _=>(nt op hop b hb).elim
  ·obtain rfl:k = j:=by omega
   exact fun i a ha e hw=>fork_knows hx hy h0 hk (h.mine l (hRj l hl) i a (old ha) e hw)
 ·have e:t ++ #[x,y] = (t ++ #[x]) ++ #[y]:=by apply Array.ext'; simp
  rw [e];refine noRace_append (g:=base + j) (noRace_append (g:=0) (h.nr said) (fun op hop=>by simp at hop; rw [hop]; exact hx.1) (fun i a _ op hop b hb _=>(nt op (by simp at hop ⊢; exact .inl hop) b hb).elim))
   (fun op hop=>by simp at hop; rw [hop]; exact hy.1) (fun i a _ op hop b hb _=>(nt op (by simp at hop ⊢; exact .inr hop) b hb).elim)
 ·rcases getElem?_append_cases hi with ⟨_,hi'⟩ | ⟨_,hiu⟩
  ·have:=h.gs i op hi'; omega
  ·rcases hm op hiu with rfl | rfl
   ·rw [hx.1]; have:=h.pos; omega
   ·rw [hy.1]; omega
 ·rcases gu hg with ⟨hl,hg'⟩ | ⟨hl,op,hou,hop,rfl⟩
  ·exact (h.atm i a g hg' hb (by rw [← touchAt_old (u:=#[x,y]) hl]; exact ha) hk').imp (hS _).2 (heard_old hl).2
  ·rw [touchAt_of hop] at ha; exact (nt op hou a ha).elim
 ·rcases gu hg with ⟨hl,hg'⟩ | ⟨hl,op,hou,hop,rfl⟩
  ·exact h.said i a g hg' hb (by rw [← touchAt_old (u:=#[x,y]) hl]; exact ha)
  ·rw [touchAt_of hop] at ha; exact (nt op hou a ha).elim
 ·rcases hm op hop with rfl | rfl
  ·rw [hx.2]; trivial
  ·rw [hy.2]; trivial
 ·rcases Nat.lt_or_ge k j with hlt | hge
  ·exact (h.ata k hlt l (hA l hl)).app fun op hop b hb _ _=>(nt op hop b hb).elim
  ·obtain rfl:k = j:=by omega
   exact fun i a ha e hk'=>fork_knows hx hy h0 hk (h.at0 l (hA l hl) i a (old ha) e hk')
theorem CTP.ofPast {B:Nat} (h:Past Shun B t) (hb:0 < base) (hg:∀ (i:Nat) (op:MemOp),t[i]? = some op→op.g < base) (hS:∀ l,p.Sh l→mr t l) (hF:∀ l,p.Fr l→l.isMemory = true ∧ ¬ Shun l) (hM:∀ l,p.Mn l→l.isMemory = true ∧ ¬ Shun l) (hA:∀ l,p.At l→l.isMemory = true ∧ ¬ Shun l) :
 CTP p base Shun B 0 t:=by
 have kn:∀ l:Loc,l.isMemory = true→¬ Shun l→Perm t 0 l:=fun l hm hs i a ha e=>(h.known i a ha (e ▸ hm)).resolve_right fun x=>hs (e ▸ x.1)
 refine ⟨hb,fun i op x hi hx hs=>absurd rfl (hS _ hs i x (by rw [touchAt_of hi]; exact hx)),fun k kj=>by omega,fun k kj=>by omega,fun l hl=>kn l (hF l hl).1 (hF l hl).2,fun l hl=>.of (kn l (hM l hl).1 (hM l hl).2),h.clean,fun i op hi=>by have:=hg i op hi; omega,
  fun i a g _ _ ha hm=>h.known i a ha hm,fun i a g hgi hle _ _=>?_,fun i a g hgi hle _=>?_,fun i g hgi hne hlt hc=>?_,h.seen,fun k kj=>by omega,fun l hl=>.of (kn l (hA l hl).1 (hA l hl).2)⟩
 ·obtain ⟨op,ho,rfl⟩:=Option.map_eq_some_iff.1 hgi;have:=hg i op ho; omega
 ·obtain ⟨op,ho,rfl⟩:=Option.map_eq_some_iff.1 hgi;have:=hg i op ho; omega
 ·obtain ⟨q,hq,hbq⟩:=h.over i g hgi hne hc;exact ⟨q,hq,hbq⟩
theorem CTP.acquired (h:CTP p base Shun B j t) {a:Addr} (hrel:∀ k,k < j→∃ r,RelBy a t (base + k) r) (hn:NoRelease a t) (h0:Deaf t 0 = 0) (fn:FuncId) (pos:String) (ha:a.block < B) :
 Past (fun l=>Shun l ∨ p.Sh l) B (t ++ MemOp.ofEvents 0 fn pos #[Go.ConcR.mk (.acquire a)]):=by
 have e1:MemOp.ofEvents 0 fn pos #[Go.ConcR.mk (.acquire a)] = #[{ g:=0,fn,pos,act:=.mark (.acquire a) }]:=by rw [ofEvents_eq]; simp [Go.ConcR.ofEvent_mk]
 rw [e1];have hy:(t ++ #[({ g:=0,fn,pos,act:=.mark (.acquire a) }:MemOp)])[t.size]? = some { g:=0,fn,pos,act:=.mark (.acquire a) }:=by simp
 have hm:∀ op ∈ (#[{ g:=0,fn,pos,act:=.mark (.acquire a) }]:Array MemOp),op = { g:=0,fn,pos,act:=.mark (.acquire a) }:=by intro op hop; simpa using hop
 have nt:∀ op ∈ (#[{ g:=0,fn,pos,act:=.mark (.acquire a) }]:Array MemOp),op.act.touch? = none:=fun op hop=>by rw [hm op hop]; rfl
 have hh:(t ++ #[({ g:=0,fn,pos,act:=.mark (.acquire a) }:MemOp)]).heard t.size:=⟨0,rD hy,by rw [deaf_old (Nat.le_refl _)]; exact h0⟩;obtain ⟨o1,o2⟩:=h.tz (u:=#[{ g:=0,fn,pos,act:=.mark (.acquire a) }]) fun op hop=>.inr (.inl (nt op hop))
 -- every worker's release is noticed
 have edge:∀ k,k < j→∃ r,RelBy a t (base + k) r ∧ HappensBefore (t ++ #[({ g:=0,fn,pos,act:=.mark (.acquire a) }:MemOp)]) r t.size:=fun k kj=>by
  obtain ⟨r,hr⟩:=hrel k kj;have hrl:=lt_of_act? hr.act;have hn':NoRelease a (t ++ #[({ g:=0,fn,pos,act:=.mark (.acquire a) }:MemOp)]):=hn.app fun op hop=>by rw [hm op hop]; simp
  exact ⟨r,hr,.single (.inr ⟨.marked hrl (.inr (by rw [act?_old hrl]; exact hr.act)) (act?_of hy) (fun q _ _=>hn' q),(heard_old hrl).2 hr.heard,hh⟩)⟩
 have wk:∀ i g,t.g? i = some g→base ≤ g→t.counts i→HappensBefore (t ++ #[({ g:=0,fn,pos,act:=.mark (.acquire a) }:MemOp)]) i t.size:=fun i g hg hb hc=>by
  obtain ⟨op,ho,rfl⟩:=Option.map_eq_some_iff.1 hg;have hlt:=h.gs i op ho;obtain ⟨k,hk⟩:∃ k,op.g = base + k:=⟨op.g - base,by omega⟩;obtain ⟨r,hr,he⟩:=edge k (by omega);have hle:i ≤ r:=Nat.le_of_not_lt fun hx=>hr.after i hx (by rw [hg,hk]) hc
  rcases Nat.lt_or_ge i r with h1 | h1
  ·have hrl:=lt_of_act? hr.act;have hil:i < t.size:=by omega
   exact .trans (.single (.inl ⟨h1,base + k,by rw [g?_old hil,hg,hk],by rw [g?_old hrl]; exact hr.g⟩)) he
  ·obtain rfl:i = r:=by omega
   exact he
 refine ⟨fun said=>noRace_append (h.nr said) (g:=0) (fun op hop=>by rw [hm op hop]) (fun i b _ op hop c hc _=>by rw [nt op hop] at hc; cases hc),fun i b hb hmem=>?_,fun i g hg hne hc=>?_,?_,seen_app h.seen fun op hop=>by rw [hm op hop]; exact ha⟩
 ·obtain ⟨op,hop,hot⟩:=touch_of hb
  rcases Nat.lt_or_ge op.g base with hlt | hge
  ·exact (o1 i b op.g (rD hop) hlt hb hmem).imp id fun x=>⟨.inl x.1,x.2⟩
  ·rcases getElem?_append_cases hop with ⟨hil,hop'⟩ | ⟨_,hou⟩
   ·have hbt:touchAt t i = some b:=by rw [touchAt_of hop']; exact hot
    by_cases hc:t.counts i
    ·exact .inl ⟨t.size,_,hy,rfl,.inr (wk i op.g (rD hop') hge hc)⟩
    ·have hka:b.kind = .atomic:=by
      cases hk:b.kind with
      | atomic=>rfl
      | plain=>exact absurd ⟨b,hbt,hmem,.inl (by rw [hk]; simp)⟩ hc
      | said=>exact absurd hk (h.said i b op.g (rD hop') hge hbt)
     exact .inr ⟨.inr ((h.atm i b op.g (rD hop') hge hbt hka).resolve_right fun hh=>hc ⟨b,hbt,hmem,.inr hh⟩),hka⟩
   ·rw [nt op hou] at hot; cases hot
 ·rcases Nat.lt_or_ge g base with hlt | hge
  ·exact o2 i g hg hne hlt hc
  ·rcases gu hg with ⟨hil,hg'⟩ | ⟨_,op,hou,hop,rfl⟩
   ·exact ⟨t.size,rD hy,wk i g hg' hge ((counts_old hil).1 hc)⟩
   ·rw [hm op hou] at hne; exact absurd rfl hne
 ·rw [Deaf_push]; simpa [deafStep] using h0
end
end Go.Gx
namespace Go.Gx
open Go Go.Conc Go.ConcN
def lA (v:World) (l:Loc):Prop:=∃ a o,l = .cell a ∧ v.heap[a.block]? = some o ∧ isH o = true ∧ ∀ x,¬ Ro o a.off x
theorem lA.mk0 {v:World} {a:Addr} {c:Array Value} (h:v.heap[a.block]? = some (.pending c 0)):lA v (.cell a):=⟨a,_,rfl,h,rfl,fun _=>iC⟩
class Bad where
 W0:World
 B:Nat→Prop
def uK [Bad] (Shun:Loc→Prop) (w:World):Prop:=∀ b,Bad.B b→Shun (.cell ⟨b,0,none⟩) ∧ w.heap[b]? = Bad.W0.heap[b]?
theorem uK.step [Bad] {Shun:Loc→Prop} {w w':World} (h:uK Shun w) (k:∀ b,Shun (.cell ⟨b,0,none⟩)→w'.heap[b]? = w.heap[b]?):uK Shun w':=fun b hb=>⟨(h b hb).1,(k b (h b hb).1).trans (h b hb).2⟩
theorem mS {Shun:Loc→Prop} {u w u' w':World} (h:∀ l,Shun l→lA u l) (k:Beside u w u' w'):∀ b,Shun (.cell ⟨b,0,none⟩)→w'.heap[b]? = w.heap[b]?:=fun b hb=>by
 obtain ⟨a,o,h1,h2,h3,_⟩:=h _ hb;cases h1;exact k.hid _ o h2 h3
theorem tri (v:World) (b:Nat):Vis v b ∨ (∃ o,v.heap[b]? = some o ∧ isH o = true) ∨ ∃ k x,v.heap[b]? = some (slot k x):=by
 cases ho:v.heap[b]? with
 | none=>exact .inl fun o h=>by rw [ho] at h; cases h
 | some o =>
   cases hp:isP o with
   | false=>exact .inl fun o' h=>by rw [ho] at h; cases h; exact hp
   | true =>
     cases hh:isH o with
     | true=>exact .inr (.inl ⟨o,rfl,hh⟩)
     | false =>
       refine .inr (.inr ?_);cases o with
       | pending c n =>
         simp only [isH,Bool.or_eq_false_iff,bne_eq_false_iff_eq] at hh;obtain ⟨h1,h2⟩:=hh;obtain ⟨x,hx⟩:∃ x,c = #[x]:=by
          obtain ⟨l⟩:=c
          match l,h2 with
          | [x],_=>exact ⟨x,rfl⟩
         subst hx;cases n with
         | zero=>simp at h1
         | succ n=>exact ⟨n,x,rfl⟩
       | _=>simp [isP] at hp
def pe (v:World):Prop:=∀ (b k:Nat) o z,v.heap[b]? = some o→¬ Ro o k z
theorem pe.mw {pm:Nat→Prop} {v v':World} (h:pe v) (t:ik pm v v'):pe v':=fun b k o z ho hr=>by
 have hP:=gM hr.isH
 by_cases hlt:b < v.heap.size
 ·rcases tri v b with h1 | ⟨o',h1,h2⟩ | ⟨k',z',h1⟩
  ·have:=t.vis b h1 _ ho;rw [hP] at this; cases this
  ·rw [t.hid b o' h1 h2] at ho;rw [← Option.some.inj ho] at hr;exact h b k o' z h1 hr
  ·obtain ⟨y,hy⟩:=t.sl b k' z' h1;rw [hy] at ho;have:=hr.isH;rw [← Option.some.inj ho] at this;cases this
 ·have:=t.fresh b _ (by omega) ho;rw [hP] at this; cases this
theorem pe.grow {v v':World} (h:pe v) (g:bo v v'):pe v':=fun b k o z ho hr=>by
 by_cases hlt:b < v.heap.size
 ·rw [g.old b hlt] at ho; exact h b k o z ho hr
 ·rw [g.new b (by omega) (aw ho)] at ho;rw [← Option.some.inj ho] at hr;exact iC hr
structure Alike (P:Program) (g g':Goroutine):Prop where
 st:g.status = g'.status
 step:∀ w,stepG P true g w = stepG P true g' w
theorem Alike.refl (P:Program) (g:Goroutine):Alike P g g:=⟨rfl,fun _=>rfl⟩
structure cu [Bad] (P:Program) (Shun:Loc→Prop) (t:Trace) (gs:Array Goroutine) (q:Nat→Nat) (g:Goroutine) (v w:World):Prop where
 at0:gs[0]? = some g
 leave:Leavers P t gs q
 past:Past Shun w.heap.size t
 few:∀ (i:Nat) op,t[i]? = some op→op.g < gs.size
 norel:∀ a,NoRelease a t
 nv:a9 v
 msk:Msk v w
 hid:∀ l,Shun l→lA v l
 iR:∀ (b k:Nat) z,v.heap[b]? ≠ some (slot k z)
 kD:pe v
 kept:uK Shun w
theorem bo.at (v:World) (d:Nat):bo v (v.at d):=⟨rfl,rfl,rfl,Nat.le_refl _,fun _ _=>rfl,fun i h1 h2=>by have h3:i < v.heap.size:=h2; omega⟩
theorem Msk.at {v w:World} (m:Msk v w) (d:Nat):Msk (v.at d) (w.at d):=⟨m.size,m.tape,rfl,m.os,m.output,m.vis,m.slot,m.ro⟩
theorem lA.mw {pm:Nat→Prop} {v v':World} {l:Loc} (h:lA v l) (t:ik pm v v'):lA v' l:=by
 obtain ⟨a,o,h1,h2,h3,h4⟩:=h;exact ⟨a,o,h1,t.hid _ _ h2 h3,h3,h4⟩
theorem lA.grow {v v':World} {l:Loc} (h:lA v l) (t:bo v v'):lA v' l:=by
 obtain ⟨a,o,h1,h2,h3,h4⟩:=h;exact ⟨a,o,h1,by rw [t.old _ (aw h2)]; exact h2,h3,h4⟩
theorem lA.pI {v:World} {a:Addr} (h:lA v (.cell a)):¬ Vis v a.block:=by
 obtain ⟨a',o,h1,h2,h3,_⟩:=h;cases h1;intro hv;have:=hv o h2;rw [gM h3] at this;cases this
theorem lA.not_slot {v:World} {a:Addr} {x:Value} (h:lA v (.cell a)):v.heap[a.block]? ≠ some (slot a.off x):=by
 obtain ⟨a',o,h1,h2,h3,_⟩:=h;cases h1;rw [h2];intro e;rw [Option.some.inj e] at h3;simp [isH,slot] at h3
theorem lA.not_ro {v:World} {a:Addr} {o:Obj} {x:Value} (h:lA v (.cell a)) (h':v.heap[a.block]? = some o):¬ Ro o a.off x:=by
 obtain ⟨a',o',h1,h2,_,h4⟩:=h;cases h1;rw [h'] at h2;obtain rfl:=Option.some.inj h2;exact h4 x
section
variable {P:Program} {Shun:Loc→Prop} {t:Trace} {gs:Array Goroutine} {q:Nat→Nat} {g:Goroutine} {v w:World} {sl:Option (Nat × Nat)}
theorem oX {pm:Nat→Prop} {fr:Nat} {e:Event} (h:EvS pm fr v e) (hid:∀ l,Shun l→lA v l):EvL Shun v.heap.size e:=by
 rcases h with ⟨a,h1,h2,h3,h4⟩ | ⟨r,h1,h2,h3,h4,h5⟩ | ⟨m,hm,rfl⟩
 ·obtain ⟨loc,wr,sy⟩:=e;simp only at h1;subst h1;refine ⟨fun x hx hs=>?_,by simp,by simp,by rw [ofEvent_cell0]; exact h2⟩;simp only [ofEvent_cell0,MemAct.touch?,Option.some.injEq] at hx;subst hx
  rcases h4 with ⟨hv,_⟩ | ⟨_,⟨x,hx⟩,_⟩ | ⟨_,_,o,x,hx,hr⟩
  ·exact absurd hv (hid _ hs).pI
  ·exact absurd hx (hid _ hs).not_slot
  ·exact absurd hr ((hid _ hs).not_ro hx)
 ·obtain ⟨loc,wr,sy⟩:=e;simp only at h1 h4;subst h1 h4;refine ⟨fun x hx hs=>?_,by simp,by simp,?_⟩
  ·obtain ⟨a,o,h,_⟩:=hid _ hs;exfalso;simp only [MemAct.ofEvent] at hx;cases wr <;> simp only [MemAct.touch?,Option.some.injEq] at hx <;> (subst hx; simp at h)
  ·cases wr <;> exact h2
 ·refine ⟨fun x hx=>?_,?_,?_,?_⟩
  ·rcases hm with rfl | ⟨f,rfl⟩ <;> simp [MemAct.ofEvent,MemAct.touch?] at hx
  ·rcases hm with rfl | ⟨f,rfl⟩ <;> simp
  ·rcases hm with rfl | ⟨f,rfl⟩ <;> simp
  ·rcases hm with rfl | ⟨f,rfl⟩ <;> trivial
theorem o8 {pm:Nat→Prop} {fr:Nat} {e:Event} (h:EvS pm fr v e) (a:Addr):MemAct.ofEvent e ≠ .mark (.release a):=by
 rcases h with ⟨b,h1,h2,h3,h4⟩ | ⟨r,h1,h2,h3,h4,h5⟩ | ⟨m,hm,rfl⟩
 ·obtain ⟨loc,wr,sy⟩:=e;simp only at h1;subst h1;rw [ofEvent_cell0]; simp
 ·obtain ⟨loc,wr,sy⟩:=e;simp only at h1 h4;subst h1 h4;cases wr <;> simp [MemAct.ofEvent]
 ·rcases hm with rfl | ⟨f,rfl⟩ <;> simp [MemAct.ofEvent]
theorem ki {u:Array Event} {a:Addr} {gn:Nat} {fn:FuncId} {pos:String} (h:NoRelease a t) (hu:∀ e ∈ u,MemAct.ofEvent e ≠ .mark (.release a)):NoRelease a (t ++ MemOp.ofEvents gn fn pos u) :=
 h.app fun op hop=>by
  obtain ⟨e,he,rfl⟩:=Conc.mem_ofEvents hop;exact hu e he
theorem xq {u:Array Event} {gn n:Nat} {fn:FuncId} {pos:String} (h:∀ (i:Nat) op,t[i]? = some op→op.g < n) (hg:gn < n):∀ (i:Nat) op,(t ++ MemOp.ofEvents gn fn pos u)[i]? = some op→op.g < n:=fun i op hi=>by
 rcases getElem?_append_cases hi with ⟨_,hi'⟩ | ⟨_,hiu⟩
 ·exact h i op hi'
 ·obtain ⟨e,_,rfl⟩:=Conc.mem_ofEvents hiu;exact hg
theorem tD {e:Event} (h:e.mute = true) (a:Addr):MemAct.ofEvent e ≠ .mark (.release a):=by
 obtain ⟨loc,wr,sy⟩:=e;cases loc <;> simp_all [Event.mute]
 rename_i m;cases m <;> simp_all [MemAct.ofEvent]
variable [Bad]
theorem cu.at (h:cu P Shun t gs q g v w) (d:Nat):cu P Shun t gs q g (v.at d) (w.at d) :=
 ⟨h.at0,h.leave,h.past,h.few,h.norel,h.nv,h.msk.at d,h.hid,h.iR,h.kD,h.kept.step fun _ _=>rfl⟩
theorem cu.slip (h:cu P Shun t gs q g v w) (hr:g.status = .running) {i k:Nat} {x:Goroutine} (hi:gs[i]? = some x) (hpos:0 < i) (hx:x.status = .running) :
 ∃ k gs' t' ,q i = k + 1 ∧ runT P (crowd gs w sl) i = (.next (crowd gs' w sl),t') ∧ gs'.size = gs.size ∧ cu P Shun (t ++ t') gs' (upd q i k) g v w:=by
 have hq:=h.leave.old i x hpos hi;have hi0:(i == 0) = false:=by simp; omega
 have hlt:i < gs.size:=(Array.getElem?_eq_some_iff.1 hi).1;cases hqi:q i with
 | zero=>rw [hqi] at hq; rw [hq.1] at hx; cases hx
 | succ k =>
   rw [hqi] at hq
   rcases hq with ⟨hf,_⟩ | ⟨_,g',es,hm,hstp,hq'⟩
   ·rw [hf] at hx; cases hx
   have hrunT:=runT_crowd_go (P:=P) (sl:=sl) (i:=i) hi (by rw [hi0]; exact hstp w);have hne:i ≠ 0:=by omega
   refine ⟨k,_,_,rfl,hrunT,by simp,⟨?_,⟨fun j y hj hy=>?_,fun j hj=>?_⟩,h.past.mute (by omega) hm,?_,fun a=>ki (h.norel a) fun e he=>tD (hm e he) a,h.nv,h.msk,h.hid,h.iR,h.kD,h.kept⟩⟩
   ·rw [Array.getElem?_setIfInBounds_ne hne,Array.getElem?_map,h.at0];simp [woken_run hr]
   ·by_cases hji:i = j
    ·subst hji;rw [Array.getElem?_setIfInBounds_self_of_lt (by simpa using hlt)] at hy;obtain rfl:=Option.some.inj hy;rw [upd_same,Deaf_own];exact hq'
    ·rw [Array.getElem?_setIfInBounds_ne hji,Array.getElem?_map] at hy;obtain ⟨z,hz,rfl⟩:=Option.map_eq_some_iff.1 hy;have hqj:=h.leave.old j z hj hz;rw [woken_quitsD hqj,upd_ne q k (Ne.symm hji),Deaf_other t hji _ (fun op hop=>by obtain ⟨e,_,rfl⟩:=Conc.mem_ofEvents hop; rfl)];exact hqj
   ·rw [Deaf_other t (g':=i) (by simp at hj; omega) _ (fun op hop=>by obtain ⟨e,_,rfl⟩:=Conc.mem_ofEvents hop; rfl)];exact h.leave.above j (by simpa using hj)
   ·rw [show ((gs.map (woken P x g' w)).setIfInBounds i g').size = gs.size by simp];exact xq h.few hlt
theorem cu.awake (h:cu P Shun t gs q g v w) (hr:g.status = .running):∀ x ∈ gs,awake x:=by
 intro x hx;obtain ⟨i,hi,rfl⟩:=Array.mem_iff_getElem.1 hx
 rcases Nat.eq_zero_or_pos i with rfl | hpos
 ·have:gs[0] = g:=by simpa [Array.getElem?_eq_getElem hi] using h.at0
  rw [this]; exact awake_of (.inl hr)
 ·exact awake_of ((h.leave.old i _ hpos (Array.getElem?_eq_getElem hi)).status.elim .inl fun x=>.inr (.inr x))
theorem cu.mw (hr:g.status = .running):∀ (M:Nat) (gs:Array Goroutine) (q:Nat→Nat) (t:Trace) (v w:World) (sl:Option (Nat × Nat)),sumTo gs.size q ≤ M→cu P Shun t gs q g v w →
 ∃ (N:Nat) (gs':Array Goroutine) (q':Nat→Nat) (t':Trace) (d:Nat) (sl0 sl':Option (Nat × Nat)) (d0:Nat),runNT P N (crowd gs w sl) t = (.next (crowd gs' (w.at d0) sl0),t') ∧
   stepT P (crowd gs' (w.at d0) sl0) = runT P (crowd gs' (w.at d) sl') 0 ∧ cu P Shun t' gs' q' g (v.at d) (w.at d):=by
 intro M
 induction M with
 | zero =>
   intro gs q t v w sl hM h;obtain ⟨i,x,d,sl',hi,hx,hst⟩:=crowd_pick (P:=P) (w:=w) (sl:=sl) (h.awake hr) ⟨0,g,h.at0,hr⟩
   rcases Nat.eq_zero_or_pos i with rfl | hpos
   ·exact ⟨0,gs,q,t,d,sl,sl',w.drawn,rfl,hst,h.at d⟩
   ·obtain ⟨k,gs',t',hk,_⟩:=(h.at d).slip (sl:=sl') (k:=0) hr hi hpos hx;have:=le_sumTo (f:=q) (Array.getElem?_eq_some_iff.1 hi).1;omega
 | succ M ih =>
   intro gs q t v w sl hM h;obtain ⟨i,x,d,sl',hi,hx,hst⟩:=crowd_pick (P:=P) (w:=w) (sl:=sl) (h.awake hr) ⟨0,g,h.at0,hr⟩
   rcases Nat.eq_zero_or_pos i with rfl | hpos
   ·exact ⟨0,gs,q,t,d,sl,sl',w.drawn,rfl,hst,h.at d⟩
   ·obtain ⟨k,gs',t',hk,hrun,hsz,h'⟩:=(h.at d).slip (sl:=sl') (k:=0) hr hi hpos hx;have hlt:=(Array.getElem?_eq_some_iff.1 hi).1;have hsum:sumTo gs.size (upd q i k) + (k + 1) = sumTo gs.size q + k:=by
     have:=sumTo_upd q k id hlt
     simpa [hk] using this
    obtain ⟨N,gs2,q2,t2,d2,sl2,sl3,d3,h1,h2,h3⟩:=ih gs' (upd q i k) (t ++ t') (v.at d) (w.at d) sl' (by rw [hsz]; omega) h';exact ⟨N + 1,gs2,q2,t2,d2,sl2,sl3,d3,by simp only [runNT,hst,hrun]; exact h1,h2,h3⟩
theorem cu.priv {pm:Nat→Prop} {fr:Nat} {ga g':Goroutine} {v':World} (h:cu P Shun t gs q ga v w) (al:Alike P ga g) (hp:uF P true pm fr g v w g' v') :
 ∃ gs' w' ops,runT P (crowd gs w sl) 0 = (.next (crowd gs' w' sl),ops) ∧ gs'.size = gs.size ∧ cu P Shun (t ++ ops) gs' q g' v' w':=by
 obtain ⟨w',es,hst,htn,hb,hes⟩:=hp;have hrunT:=runT_crowd_go (P:=P) (sl:=sl) (i:=0) h.at0 (show stepG P (0 == 0) ga w = _ from (al.step w).trans hst);have hlt:0 < gs.size:=(Array.getElem?_eq_some_iff.1 h.at0).1;have hsz:w.heap.size ≤ w'.heap.size:=by rw [h.msk.size,hb.msk.size]; exact htn.size
 have hid':∀ l,Shun l→lA v' l:=fun l hl=>(h.hid l hl).mw htn
 refine ⟨_,w',_,hrunT,by simp,⟨by simp [hlt],⟨fun j x hj hx=>?_,fun j hj=>?_⟩,(h.past.mono hsz).own fun e he=>?_,?_,fun a=>ki (h.norel a) fun e he=>o8 (hes e he) a,htn.nv h.nv,hb.msk,hid',fun b k z hz=>?_,h.kD.mw htn,h.kept.step (mS h.hid hb)⟩⟩
 ·have hne:0 ≠ j:=by omega
  rw [Array.getElem?_setIfInBounds_ne hne,Array.getElem?_map] at hx;obtain ⟨y,hy,rfl⟩:=Option.map_eq_some_iff.1 hx;have hq:=h.leave.old j y hj hy;rw [woken_quitsD hq,Deaf_other t (by omega) _ (fun op hop=>by obtain ⟨e,_,rfl⟩:=Conc.mem_ofEvents hop; rfl)];exact hq
 ·rw [Deaf_other t (g':=0) (by simp at hj; omega) _ (fun op hop=>by obtain ⟨e,_,rfl⟩:=Conc.mem_ofEvents hop; rfl)];exact h.leave.above j (by simpa using hj)
 ·rw [hb.msk.size];exact oX (hes e he) hid'
 ·rw [show ((gs.map (woken P ga g' w')).setIfInBounds 0 g').size = gs.size by simp];exact xq h.few hlt
 ·by_cases hlt:b < v.heap.size
  ·rcases tri v b with h1 | ⟨o,h1,h2⟩ | ⟨k',z',h1⟩
   ·have:=htn.vis b h1 _ hz;simp [isP,slot] at this
   ·rw [htn.hid b o h1 h2] at hz;rw [Option.some.inj hz] at h2;simp [isH,slot] at h2
   ·exact h.iR _ _ _ h1
  ·have:=htn.fresh b _ (by omega) hz;simp [isP,slot] at this
theorem ic {P:Program} {m m':Machine} {t t':Trace} {N:Nat} (h:runNT P N m t = (.next m',t')) {K:Nat} {r:Stepped × Trace} (h':runNT P K m' t' = r):runNT P (N + K) m t = r:=by
 rw [runNT_add,h]; exact h'
def Comes (P:Program) (m:Machine) (t:Trace) (T:Goroutine→World→Prop):Prop :=
 ∃ (N:Nat) (gs':Array Goroutine) (w':World) (sl':Option (Nat × Nat)) (t':Trace) (q':Nat→Nat) (Shun':Loc→Prop) (ga g':Goroutine) (v' u':World),
   runNT P N m t = (.next (crowd gs' w' sl'),t') ∧ T g' v' ∧ bo v' u' ∧ Alike P ga g' ∧ cu P Shun' t' gs' q' ga u' w'
def pd (P:Program) (gs:Array Goroutine) (w:World) (d0:Nat) (sl0 sl1:Option (Nat × Nat)):Prop:=stepT P (crowd gs (w.at d0) sl0) = runT P (crowd gs w sl1) 0
section
variable {X:Ext} {pm:Nat→Prop} {fr:Nat} {T:Goroutine→World→Prop}
theorem rm (hfit:∀ v w,X.fits v w) (hblk:∀ g,¬ X.blk g)
 (hkind:∀ (gs:Array Goroutine) (q:Nat→Nat) (t:Trace) (Shun:Loc→Prop) (d0:Nat) (sl0 sl1:Option (Nat × Nat)) (ga g:Goroutine) (u w:World) (S:Goroutine→World→Prop),X.kind true g u w S→Alike P ga g→cu P Shun t gs q ga u w→pd P gs w d0 sl0 sl1 →
  Comes P (crowd gs (w.at d0) sl0) t S)
 {g:Goroutine} {v:World} {bl:Bool} {f:World→World→Goroutine→World→Prop} (hb:bl = true→X.blk g)
 (h:∀ v1 w,Met X v v1 w→(bl = true→X.up w)→(∃ g' v',uF P true pm fr g v1 w g' v' ∧ f v1 w g' v') ∨ X.kind true g v1 w (f v1 w))
 (ih:∀ v1 w,Met X v v1 w→(bl = true→X.up w)→∀ g' v',f v1 w g' v'→∀ (gs:Array Goroutine) (q:Nat→Nat) (t:Trace) (Shun:Loc→Prop) (sl:Option (Nat × Nat)) (ga:Goroutine) (u w2:World),bo v' u→Alike P ga g'→cu P Shun t gs q ga u w2→Comes P (crowd gs w2 sl) t T)
 {gs:Array Goroutine} {q:Nat→Nat} {t:Trace} {Shun:Loc→Prop} {d0:Nat} {sl0 sl1:Option (Nat × Nat)} {ga:Goroutine} {u w:World} (hg:bo v u) (al:Alike P ga g) (hB:cu P Shun t gs q ga u w) (hp:pd P gs w d0 sl0 sl1) :
 Comes P (crowd gs (w.at d0) sl0) t T:=by
 have hbl:bl = false:=by
  cases bl with
  | false=>rfl
  | true=>exact absurd (hb rfl) (hblk g)
 have m:Met X v u w:=⟨hg,hB.nv,hB.msk,hfit _ _⟩;have up:bl = true→X.up w:=fun e=>by rw [hbl] at e; cases e
 rcases h _ _ m up with ⟨g',v',hpr,hf⟩ | hk
 ·obtain ⟨gs2,w2,ops,h3,_,hB2⟩:=hB.priv (sl:=sl1) al hpr;obtain ⟨K,gs3,w3,sl3,t3,q3,Sh3,ga3,g3,v3,u3,h4,h5⟩:=ih _ _ m up _ _ hf gs2 q (t ++ ops) Shun sl1 _ _ w2 (.refl _) (.refl P _) hB2;exact ⟨K + 1,gs3,w3,sl3,t3,q3,Sh3,ga3,g3,v3,u3,by simp only [runNT,show stepT P (crowd gs (w.at d0) sl0) = _ from hp,h3]; exact h4,h5⟩
 ·obtain ⟨K,gs3,w3,sl3,t3,q3,Sh3,ga3,g3,v3,u3,h4,hS,h6,h7,h8⟩:=hkind gs q t Shun d0 sl0 sl1 ga g _ _ _ hk al hB hp;obtain ⟨K2,gs4,w4,sl4,t4,q4,Sh4,ga4,g4,v4,u4,k4,k5⟩:=ih _ _ m up _ _ hS gs3 q3 t3 Sh3 sl3 ga3 u3 w3 h6 h7 h8;exact ⟨K + K2,gs4,w4,sl4,t4,q4,Sh4,ga4,g4,v4,u4,ic h4 k4,k5⟩
theorem oO (hfit:∀ v w,X.fits v w) (hblk:∀ g,¬ X.blk g)
 (hkind:∀ (gs:Array Goroutine) (q:Nat→Nat) (t:Trace) (Shun:Loc→Prop) (d0:Nat) (sl0 sl1:Option (Nat × Nat)) (ga g:Goroutine) (u w:World) (S:Goroutine→World→Prop),X.kind true g u w S→Alike P ga g→cu P Shun t gs q ga u w→pd P gs w d0 sl0 sl1 →
  Comes P (crowd gs (w.at d0) sl0) t S)
 {g:Goroutine} {v:World} (h:cQ X P true pm fr T g v):∀ (gs:Array Goroutine) (q:Nat→Nat) (t:Trace) (Shun:Loc→Prop) (sl:Option (Nat × Nat)) (ga:Goroutine) (u w:World),bo v u→Alike P ga g→cu P Shun t gs q ga u w →
  Comes P (crowd gs w sl) t T:=by
 induction h with
 | stop h=>exact fun gs q t Shun sl ga u w hg al hB=>⟨0,gs,w,sl,t,q,Shun,ga,_,_,u,rfl,h,hg,al,hB⟩
 | step hr bl hb f h _ ih =>
   intro gs q t Shun sl ga u w hg al hB;obtain ⟨N,gs1,q1,t1,d,sl0,sl1,d0,h1,h2,hB1⟩:=cu.mw (al.st.trans hr) _ gs q t u w sl (Nat.le_refl _) hB;obtain ⟨K,gs3,w3,sl3,t3,q3,Sh3,ga3,g3,v3,u3,h4,h5⟩:=rm (d0:=d0) (sl0:=sl0) (sl1:=sl1) hfit hblk hkind hb h ih (hg.trans (bo.at u d)) al hB1 h2;exact ⟨N + K,gs3,w3,sl3,t3,q3,Sh3,ga3,g3,v3,u3,ic h1 h4,h5⟩
theorem run_picked (hfit:∀ v w,X.fits v w) (hblk:∀ g,¬ X.blk g)
 (hkind:∀ (gs:Array Goroutine) (q:Nat→Nat) (t:Trace) (Shun:Loc→Prop) (d0:Nat) (sl0 sl1:Option (Nat × Nat)) (ga g:Goroutine) (u w:World) (S:Goroutine→World→Prop),X.kind true g u w S→Alike P ga g→cu P Shun t gs q ga u w→pd P gs w d0 sl0 sl1 →
  Comes P (crowd gs (w.at d0) sl0) t S)
 {g:Goroutine} {v:World} (h:cQ X P true pm fr T g v) {gs:Array Goroutine} {q:Nat→Nat} {t:Trace} {Shun:Loc→Prop} {d0:Nat} {sl0 sl1:Option (Nat × Nat)} {ga:Goroutine} {u w:World} (hg:bo v u) (al:Alike P ga g) (hB:cu P Shun t gs q ga u w) (hp:pd P gs w d0 sl0 sl1) :
 Comes P (crowd gs (w.at d0) sl0) t T:=by
 cases h with
 | stop h=>exact ⟨0,gs,w.at d0,sl0,t,q,Shun,ga,_,_,u.at d0,rfl,h,hg.trans (bo.at u d0),al,hB.at d0⟩
 | step hr bl hb f h ih=>exact rm hfit hblk hkind hb h (fun v1 w1 m up g' v' hf=>oO hfit hblk hkind (ih v1 w1 m up g' v' hf)) hg al hB hp
end
end
end Go.Gx
namespace Go.Gx
open Go Go.Conc Go.ConcN
inductive Tr where
 | leaf
 | node (f:World→World→Goroutine→World→Tr)
def Tr.Sub (s t:Tr):Prop:=∃ f v w g v',t = .node f ∧ s = f v w g v'
theorem Tr.wf:WellFounded Tr.Sub:=⟨fun t=>by
 induction t with
 | leaf=>exact ⟨_,fun s ⟨f,v,w,_,_,h,_⟩=>by cases h⟩
 | node f ih=>exact ⟨_,fun s ⟨g,v,w,_,_,h,e⟩=>by cases h; subst e; exact ih v w _ _⟩⟩
inductive RunT (X:Ext) (P:Program) (main:Bool) (pm:Nat→Prop) (fr:Nat) (T:Goroutine→World→Prop):Tr→Goroutine→World→Prop
 | stop {g:Goroutine} {v:World} (h:T g v):RunT X P main pm fr T .leaf g v
 | step {g:Goroutine} {v:World} (hr:g.status = .running) (bl:Bool) (hb:bl = true→X.blk g) (f:World→World→Goroutine→World→Prop) (t:World→World→Goroutine→World→Tr)
  (h:∀ v1 w,Met X v v1 w→(bl = true→X.up w)→(∃ g' v',uF P main pm fr g v1 w g' v' ∧ f v1 w g' v') ∨ X.kind main g v1 w (f v1 w))
  (ih:∀ v1 w,Met X v v1 w→(bl = true→X.up w)→∀ g' v',f v1 w g' v'→RunT X P main pm fr T (t v1 w g' v') g' v'):RunT X P main pm fr T (.node t) g v
theorem cQ.tree {X:Ext} {P:Program} {main:Bool} {pm:Nat→Prop} {fr:Nat} {T:Goroutine→World→Prop} {g:Goroutine} {v:World} (h:cQ X P main pm fr T g v):∃ t,RunT X P main pm fr T t g v:=by
 classical
 induction h with
 | stop h=>exact ⟨_,.stop h⟩
 | step hr bl hb f h _ ih =>
   refine ⟨_,.step hr bl hb f (fun v1 w g' v'=>if hg:Met X _ v1 w ∧ (bl = true→X.up w) ∧ f v1 w g' v' then (ih v1 w hg.1 hg.2.1 g' v' hg.2.2).choose else .leaf) h fun v1 w m u g' v' hf=>?_⟩;rw [dif_pos ⟨m,u,hf⟩];exact (ih v1 w m u g' v' hf).choose_spec
theorem RunT.cases {X:Ext} {P:Program} {main:Bool} {pm:Nat→Prop} {fr:Nat} {T:Goroutine→World→Prop} {t:Tr} {g:Goroutine} {v:World} (h:RunT X P main pm fr T t g v) :
 (t = .leaf ∧ T g v) ∨ (g.status = .running ∧ t ≠ .leaf ∧ ∃ bl:Bool,(bl = true→X.blk g) ∧ ∀ v1 w,Met X v v1 w→(bl = true→X.up w) →
  (∃ g' v' t',Tr.Sub t' t ∧ uF P main pm fr g v1 w g' v' ∧ RunT X P main pm fr T t' g' v') ∨ X.kind main g v1 w (fun g' v'=>∃ t',Tr.Sub t' t ∧ RunT X P main pm fr T t' g' v')):=by
 cases h with
 | stop h=>exact .inl ⟨rfl,h⟩
 | step hr bl hb f t h ih=>exact .inr ⟨hr,(fun e=>by cases e),bl,hb,fun v1 w m u=>(h v1 w m u).imp (fun ⟨g',v',hp,hf⟩=>⟨g',v',_,⟨t,v1,w,g',v',rfl,rfl⟩,hp,ih v1 w m u _ _ hf⟩) (fun hk=>X.mono hk fun g' v' hf=>⟨_,⟨t,v1,w,g',v',rfl,rfl⟩,ih v1 w m u _ _ hf⟩)⟩
def jf (u w':World):World:={ u with heap:=u.heap ++ Array.replicate (w'.heap.size - u.heap.size) dummy,drawn:=w'.drawn }
theorem dN (u w':World):bo u (jf u w'):=by
 refine ⟨rfl,rfl,rfl,by simp [jf],fun i hi=>?_,fun i h1 h2=>?_⟩
 ·show (u.heap ++ _)[i]? = _;rw [Array.getElem?_append_left hi]
 ·have h3:i < u.heap.size + (w'.heap.size - u.heap.size):=by simpa [jf] using h2
  show (u.heap ++ _)[i]? = _;rw [Array.getElem?_append_right h1,Array.getElem?_replicate,if_pos (by omega)]
theorem bo.nv {u u':World} (g:bo u u') (h:a9 u):a9 u':=fun i o ho=>by
 by_cases hi:i < u.heap.size
 ·exact h i o (by rw [← g.old i hi]; exact ho)
 ·rw [g.new i (by omega) (aw ho)] at ho;cases ho; rfl
theorem bo.vis {u u':World} (g:bo u u') {b:Nat} (hb:b < u'.heap.size):Vis u' b ↔ b < u.heap.size ∧ Vis u b:=by
 constructor
 ·intro h
  by_cases hi:b < u.heap.size
  ·exact ⟨hi,fun o ho=>h o (by rw [g.old b hi]; exact ho)⟩
  ·have:=h _ (g.new b (by omega) hb);simp [isP,dummy] at this
 ·rintro ⟨hi,h⟩ o ho;exact h o (by rw [← g.old b hi]; exact ho)
theorem bo.slot {u u':World} (g:bo u u') {b k:Nat} {x:Value} (h:u'.heap[b]? = some (slot k x)):u.heap[b]? = some (slot k x):=by
 by_cases hi:b < u.heap.size
 ·rw [← g.old b hi]; exact h
 ·rw [g.new b (by omega) (aw h)] at h;simp [Gx.slot,dummy] at h
theorem ik.vis_iff {pm:Nat→Prop} {v v':World} (t:ik pm v v') {b:Nat} (hb:b < v.heap.size):Vis v' b ↔ Vis v b:=by
 refine ⟨fun h=>?_,t.vis b⟩
 rcases tri v b with h1 | ⟨o,h1,h2⟩ | ⟨k,x,h1⟩
 ·exact h1
 ·have:=h o (t.hid b o h1 h2);rw [gM h2] at this; cases this
 ·obtain ⟨y,h2⟩:=t.sl b k x h1;have:=h _ h2;simp [isP,Gx.slot] at this
theorem ik.slot_old {pm:Nat→Prop} {v v':World} (t:ik pm v v') {b k:Nat} {x:Value} (hb:b < v.heap.size) (h:v'.heap[b]? = some (slot k x)):∃ y,v.heap[b]? = some (slot k y):=by
 rcases tri v b with h1 | ⟨o,h1,h2⟩ | ⟨k',x',h1⟩
 ·have:=t.vis b h1 _ h;simp [isP,Gx.slot] at this
 ·rw [t.hid b o h1 h2] at h;rw [Option.some.inj h] at h2;simp [isH,Gx.slot] at h2
 ·obtain ⟨y,h2⟩:=t.sl b k' x' h1;rw [h2] at h;obtain ⟨rfl,rfl⟩:=kx (Option.some.inj h);exact ⟨x',h1⟩
theorem vD {pm:Nat→Prop} {ux ux' uy w w':World} (t:ik pm ux ux') (b:Beside ux w ux' w') (mx:Msk ux w) (my:Msk uy w)
 (sep:∀ i,i < w.heap.size→Vis uy i→(∃ o,ux.heap[i]? = some o ∧ isH o = true) ∨ (Vis ux i ∧ ¬ pm i))
 (sl:∀ (i k:Nat) z,uy.heap[i]? = some (slot k z)→(∃ o,ux.heap[i]? = some o ∧ isH o = true) ∨ (∃ k' z',ux.heap[i]? = some (slot k' z') ∧ k' ≠ k))
 (ro:∀ (i:Nat) o,uy.heap[i]? = some o→(∃ k z,Ro o k z)→∃ o',ux.heap[i]? = some o' ∧ isH o' = true):Msk (jf uy w') w':=by
 have hsz:w.heap.size ≤ w'.heap.size:=by rw [mx.size,b.msk.size]; exact t.size
 have gsz:(jf uy w').heap.size = w'.heap.size:=by
  have:=my.size;simp [jf]; omega
 refine ⟨gsz.symm,b.tape.trans my.tape,rfl,b.os.trans my.os,b.output.trans my.output,fun i hi=>?_,fun i k z hz=>?_,fun i k o z hz hr=>?_⟩
 ·by_cases hlt:i < w'.heap.size
  ·obtain ⟨h1,h2⟩:=((dN uy w').vis (by rw [gsz]; exact hlt)).1 hi;have h1':i < w.heap.size:=by rw [my.size]; exact h1
   rw [(dN uy w').old i h1,← my.vis i h2]
   rcases sep i h1' h2 with ⟨o,h3,h4⟩ | ⟨h3,h4⟩
   ·exact b.hid i o h3 h4
   ·rw [b.msk.vis i (t.vis i h3),t.old i (by rw [← mx.size]; exact h1') h4,mx.vis i h3]
  ·rw [Array.getElem?_eq_none (by omega),Array.getElem?_eq_none (by omega)]
 ·have hz':=(dN uy w').slot hz;obtain ⟨c,e,h1,h2⟩:=my.slot i k z hz'
  rcases sl i k z hz' with ⟨o,h3,h4⟩ | ⟨k',z',h3,h4⟩
  ·exact ⟨c,e,(b.hid i o h3 h4).trans h1,h2⟩
  ·obtain ⟨c',g1,g2,g3⟩:=b.sl i k' z' h3 c e _ h1;exact ⟨c',e,g1,by rw [g3 k (Ne.symm h4)]; exact h2⟩
 ·have hlt:i < uy.heap.size:=Nat.lt_of_not_le fun hge=>by
   rw [(dN uy w').new i hge (aw hz)] at hz;rw [← Option.some.inj hz] at hr;exact iC hr
  rw [(dN uy w').old i hlt] at hz;obtain ⟨c,e,h1,h2⟩:=my.ro i k o z hz hr;obtain ⟨o',h3,h4⟩:=ro i o hz ⟨k,z,hr⟩;exact ⟨c,e,(b.hid i o' h3 h4).trans h1,h2⟩
theorem lib_msk {u w w':World} (m:Msk u w) (h1:w'.tape = w.tape) (h2:w'.os = w.os) (h3:w'.output = w.output) (h4:w'.heap.size = w.heap.size)
 (h5:∀ b:Nat,Vis u b→w'.heap[b]? = w.heap[b]?) (hs:∀ (b k:Nat) z,u.heap[b]? = some (Gx.slot k z)→∃ (c:Array Value) (e:TypeId),w'.heap[b]? = some (.cells c e (0,0)) ∧ c[k]? = some z)
 (hr:∀ (b k:Nat) o z,u.heap[b]? = some o→Ro o k z→∃ (c:Array Value) (e:TypeId),w'.heap[b]? = some (.cells c e (0,0)) ∧ c[k]? = some z):Msk (u.at w'.drawn) w' :=
 ⟨h4.trans m.size,h1.trans m.tape,rfl,h2.trans m.os,h3.trans m.output,fun i hi=>(h5 i hi).trans (m.vis i hi),hs,hr⟩
inductive uJ {α:Type} (r:α→α→Prop):List α→List α→Prop
 | head {x y:α} {l:List α}:r x y→uJ r (x :: l) (y :: l)
 | tail {x:α} {l l':List α}:uJ r l l'→uJ r (x :: l) (x :: l')
theorem less1_wf {α:Type} {r:α→α→Prop} (h:WellFounded r):WellFounded (uJ r):=by
 have key:∀ l:List α,Acc (uJ r) l:=by
  intro l
  induction l with
  | nil=>exact ⟨_,fun y h=>by cases h⟩
  | cons x l ih =>
    induction ih generalizing x with
    | intro l _ ihl =>
      induction h.apply x with
      | intro x _ ihx =>
        refine ⟨_,fun y hy=>?_⟩;cases hy with
        | head h1=>exact ihx _ h1
        | tail h1=>exact ihl _ h1 x
 exact ⟨key⟩
theorem less1_at {α:Type} {r:α→α→Prop} {f f':Nat→α} {i:Nat}:∀ {n s:Nat},s ≤ i→i < s + n→r (f' i) (f i)→(∀ k,k ≠ i→f' k = f k)→uJ r ((List.range' s n).map f') ((List.range' s n).map f)
 | 0,s,h1,h2,_,_=>by omega
 | n + 1,s,h1,h2,h3,h4=>by
   simp only [List.range'_succ,List.map_cons]
   rcases Nat.eq_or_lt_of_le h1 with rfl | hlt
   ·have e:(List.range' (s + 1) n).map f' = (List.range' (s + 1) n).map f:=List.map_congr_left fun k hk=>h4 k (by have:=List.mem_range'.1 hk; omega)
    rw [e];exact .head h3
   ·rw [h4 s (by omega)];exact .tail (less1_at (s:=s + 1) (by omega) (by omega) h3 h4)
end Go.Gx
namespace Go.Gx
open Go Go.Conc Go.ConcN
open Go.ConcR (KK wgBlock WgAt stA smA rd wr mk Payload DC0 Bk g_of_ofEvents)
def X0:Ext:=⟨fun _ _=>True,fun _ _ _ _ _=>False,fun _=>False,fun _=>True,fun h _=>h⟩
class Duo where
 C2:Nat
 R:Nat
 ty2:TypeId
 tyR:TypeId
 fv2:Value
 c0:List Value
 two:2 ≤ c0.length
 ini:List Nat
 J:Nat→(Nat→List Nat)→Prop
 Tr:List Nat→Nat→List Nat→Nat→Prop
 cn:∀ {σ γs i γ' σ'},J σ γs→Tr (γs i) σ γ' σ'→J σ' (upd γs i γ')
 mF:Nat→World→Prop
 post:∀ {i u u'},mF i u→bo u u'→mF i u'
section
variable [Duo]
def wdA:Addr:=⟨Duo.R,Duo.c0.length,none⟩
def nums (l:List Nat):List Value:=l.map fun n:Nat=>Value.int .i64 n
omit [Duo] in
theorem nums_inj {l l':List Nat} (h:nums l = nums l'):l = l' :=
 (List.map_inj_right (f:=fun n:Nat=>Value.int .i64 n) (fun a b e=>by
  have:=(Value.int.inj e).2;omega)).1 h
def roB (γ:List Nat):Obj:=.pending (Duo.c0 ++ nums γ).toArray (Duo.c0.length + 1)
def GhR (u:World) (γ:List Nat):Prop:=u.heap[Duo.R]? = some (roB γ)
theorem oA (γ:List Nat):isH (roB γ) = true:=by
 have:=Duo.two;simp [isH,roB];omega
theorem jM {γ:List Nat} {k:Nat} {z:Value}:Ro (roB γ) k z ↔ (k < Duo.c0.length ∧ Duo.c0[k]? = some z):=by
 have h0:=Duo.two;constructor
 ·rintro ⟨d,n,h1,h2,h3,h4⟩;obtain ⟨rfl,e⟩:=Obj.pending.inj (show Obj.pending (Duo.c0 ++ nums γ).toArray (Duo.c0.length + 1) = _ from h1);obtain rfl:n = Duo.c0.length:=(Nat.succ.inj e).symm;refine ⟨h3,?_⟩;rw [List.getElem?_toArray,List.getElem?_append_left h3] at h4;exact h4
 ·rintro ⟨h2,h3⟩;refine ⟨_,Duo.c0.length,rfl,by simp; omega,h2,?_⟩;rw [List.getElem?_toArray,List.getElem?_append_left h2];exact h3
theorem xm {u:World} {γ γ':List Nat} (h:GhR u γ) (h':GhR u γ'):γ = γ':=by
 have h5:=Option.some.inj (Eq.symm (show u.heap[Duo.R]? = _ from h) |>.trans h');simp only [roB,Obj.pending.injEq] at h5;have h6:=congrArg Array.toList h5.1;simp only at h6;exact nums_inj (List.append_cancel_left h6)
theorem GhR.grow {u u':World} {γ:List Nat} (h:GhR u γ) (g:bo u u'):GhR u' γ:=by
 unfold GhR at h ⊢;rw [g.old _ (aw h)]; exact h
end
def gh (l:List Nat):Obj:=.pending (l.map fun n:Nat=>Value.int .i64 n).toArray 0
theorem gh_H (l:List Nat):isH (gh l) = true:=rfl
theorem gh_inj {l l':List Nat} (h:gh l = gh l'):l = l':=by
 simp only [gh,Obj.pending.injEq,and_true] at h;have h1:=congrArg Array.toList h;simp only at h1;exact (List.map_inj_right (f:=fun n:Nat=>Value.int .i64 n) (fun a b e=>by
  have:=(Value.int.inj e).2;omega)).1 h1
theorem xl {v:World} {b:Nat} {l l':List Nat} (h:v.heap[b]? = some (gh l)) (h':v.heap[b]? = some (gh l')):l = l':=gh_inj (Option.some.inj (h.symm.trans h'))
def dw (v:World) (b:Nat) (o:Obj):World:={ v with heap:=v.heap.setIfInBounds b o }
theorem cR {v:World} {b:Nat} {o:Obj} (h:b < v.heap.size):(dw v b o).heap[b]? = some o:=by simp [dw,h]
theorem dJ {v:World} {b i:Nat} {o:Obj} (h:b ≠ i):(dw v b o).heap[i]? = v.heap[i]?:=by simp [dw,Array.getElem?_setIfInBounds_ne h]
theorem di (v:World) (b:Nat) (o:Obj):(dw v b o).heap.size = v.heap.size:=by simp [dw]
theorem qv {v u:World} {b:Nat} {o:Obj} (h:bo v u) (hb:b < v.heap.size):bo (dw v b o) (dw u b o):=by
 have hb':b < u.heap.size:=Nat.lt_of_lt_of_le hb h.size;refine ⟨h.tape,h.os,h.output,by simpa [dw] using h.size,fun i hi=>?_,fun i h1 h2=>?_⟩
 ·by_cases e:b = i
  ·subst e; rw [cR hb,cR hb']
  ·rw [dJ e,dJ e]; exact h.old i (by simpa [dw] using hi)
 ·have h1':v.heap.size ≤ i:=by simpa [dw] using h1
  rw [dJ (by omega)];exact h.new i h1' (by simpa [dw] using h2)
theorem j1 {v:World} {b:Nat} {o:Obj} (h:a9 v) (ho:isV o = false):a9 (dw v b o):=fun i x hx=>by
 by_cases e:b = i
 ·subst e;have:=aw hx;rw [cR (by simpa [dw] using this)] at hx;cases hx; exact ho
 ·rw [dJ e] at hx; exact h i x hx
def AtE [Duo] (e:Event):Prop:=(∃ wr,e = ⟨.cell wdA,wr,true⟩) ∨ ∃ f,e = ⟨.mark (.extern f),false,true⟩
def KW [Duo] (P:Program) (m:Bool) (g:Goroutine) (v w:World) (S:Goroutine→World→Prop):Prop :=
 ∃ g' γ γ' σ σ' w' es,GhR v γ ∧ stepG P m g w = .go g' w' es ∧ g'.status = .running ∧ (∀ e ∈ es,AtE e) ∧ w.cell? wdA = some (.int .u64 (σ:Nat)) ∧
   Duo.Tr γ σ γ' σ' ∧ ((w' = w ∧ σ' = σ) ∨ w' = w.setCell wdA (.int .u64 (σ':Nat))) ∧ S g' (dw v Duo.R (roB γ'))
def FitW [Duo] (i:Nat) (v w:World):Prop:=∃ γs σ,GhR v (γs i) ∧ w.cell? wdA = some (.int .u64 (σ:Nat)) ∧ Duo.J σ γs
def XW [Duo] (P:Program) (i:Nat):Ext:=⟨FitW i,KW P,fun _=>False,fun _=>True,fun ⟨g',γ,γ',σ,σ',w',es,h2,h3,h4,h5,h6,h7,h8,h9⟩ hS=>⟨g',γ,γ',σ,σ',w',es,h2,h3,h4,h5,h6,h7,h8,hS _ _ h9⟩⟩
section
variable [Payload] [Duo] (P:Program) (ty:TypeId) (Wg C n:Nat)
def Row (b:Nat):Prop:=b = C ∨ b = Duo.C2
structure FitsL (l:List Nat) (w:World):Prop where
 live:WgLive ty Wg w
 add:∀ r,l = [0,r,4]→∃ c:Nat,c < 2147483647 ∧ WgAt ty Wg w (c * KK) 0
 anch:∀ b,l = [2,b]→∃ c:Nat,c ≤ b ∧ c < 2147483648 ∧ WgAt ty Wg w (c * KK) 0
 seen:∀ vs,l = [3,vs]→∃ c:Nat,c ≤ vs ∧ c < 2147483648 ∧ WgAt ty Wg w (c * KK) 0
 woke:l = [5]→WgAt ty Wg w 0 0
inductive Rel (n:Nat):List Nat→List Nat→World→World→Array Event→Prop
 | dis {r:Nat} {w:World}:Rel n [0,r,5] [0,r,4] w w #[mk .disable]
 | add {r c:Nat} {w:World}:WgAt ty Wg w (c * KK) 0→Rel n [0,r,4] [0,r,3] w (w.setCell (stA Wg) (.int .u64 (((c:Int) + 1) * KK))) #[rd (stA Wg),wr (stA Wg)]
 | said {l:List Nat} {w:World} {e:Event}:(e = ⟨.mark (.read (smA Wg)),false,true⟩ ∨ e = ⟨.mark (.write (smA Wg)),false,true⟩)→Rel n l l w w #[e]
 | en {r:Nat} {w:World}:Rel n [0,r,3] [0,r,2] w w #[mk .enable]
 | wdis {w:World}:Rel n [1] [2,n] w w #[mk .disable]
 | ld0 {b:Nat} {w:World}:WgAt ty Wg w 0 0→Rel n [2,b] [6] w w #[rd (stA Wg)]
 | ld {b c:Nat} {w:World}:WgAt ty Wg w (c * KK) 0→c ≠ 0→c ≤ b→Rel n [2,b] [3,c] w w #[rd (stA Wg)]
 | hit {c:Nat} {w:World}:WgAt ty Wg w (c * KK) 0→Rel n [3,c] [4] w (w.setCell (stA Wg) (.int .u64 ((c:Int) * KK + 1))) #[rd (stA Wg),wr (stA Wg)]
 | miss {vs c:Nat} {w:World}:WgAt ty Wg w (c * KK) 0→c < vs→Rel n [3,vs] [2,vs - 1] w w #[rd (stA Wg)]
 | ld4 {w:World}:Rel n [5] [6] w w #[rd (stA Wg)]
 | enk {w:World}:Rel n [6] [7] w w #[mk .enable]
def KB (main:Bool) (g:Goroutine) (v w:World) (S:Goroutine→World→Prop):Prop :=
 main = true ∧ ∃ g' l l' w' es,v.heap[Wg]? = some (gh l) ∧ stepG P true g w = .go g' w' es ∧ g'.status = .running ∧ Rel ty Wg n l l' w w' es ∧ S g' (dw v Wg (gh l'))
def BlkB (g:Goroutine):Prop:=g.status = .running ∧ g.offers = none ∧ ∀ w,(∃ st,WgAt ty Wg w st 0)→stepG P true g w = .go { g with status:=.blocked } w #[]
def XB:Ext:=⟨fun v w=>∃ l,v.heap[Wg]? = some (gh l) ∧ FitsL ty Wg l w,KB P ty Wg n,fun _=>False,fun _=>True,fun ⟨h0,g',l,l',w',es,h1,h2,h3,h4,h5⟩ hS=>⟨h0,g',l,l',w',es,h1,h2,h3,h4,hS _ _ h5⟩⟩
def O0:Nat→Loc→Prop:=fun _ _=>False
def pmM (fr:Nat):Nat→Prop:=fun b=>fr ≤ b
def pmW (s:Nat):Nat→Prop:=fun b=>s ≤ b ∨ Row C b ∨ b = Duo.R
variable (fv tv:Value)
def iN (i:Nat) (fv:Value) (u:World):World:=dw (dw (dw u C (slot i fv)) Duo.C2 (slot i Duo.fv2)) Duo.R (roB Duo.ini)
def TW (i:Nat) (g:Goroutine) (v:World):Prop :=
 v.heap[C]? = some (slot i tv) ∧ Duo.mF i v ∧ ∀ w,WgLive ty Wg w→Has C i tv w→Goes P false (RW ty Wg C n 0 (i + 1 - 1)) DC0 (AtR0 P ty Wg C n 0 (i + 1) tv) 23 g w
variable (Fin:Goroutine→World→Prop)
def xK (g:Goroutine) (v:World):Prop:=g.status = .running ∧ v.heap[Wg]? = some (gh [7]) ∧ ∃ g',g'.status = .running ∧ (∀ w,stepG P true g w = .go g' w #[mk (.acquire (stA Wg))]) ∧ Fin g' v
def rU:Nat→List Nat
 | 0=>[1]
 | r + 1=>[0,r,5]
def TM:Nat→Nat→Goroutine→World→Prop
 | 0,_,g,v=>xK P Wg Fin g v
 | 1,fr,g,v=>xK P Wg Fin g v ∨ (v.heap[Wg]? = some (gh [4]) ∧ BlkB P ty Wg g ∧ ∃ g',g'.status = .running ∧ (∀ w,WgAt ty Wg w 0 1→stepG P true g w = .go g' (w.setCell (smA Wg) (.int .u32 0)) (semEvents (smA Wg))) ∧
  (∀ u,bo v u→a9 u→cQ (XB P ty Wg n) P true (pmM fr) fr (TM 0 fr) g' (dw u Wg (gh [5]))))
 | r + 2,_,g,v=>g.status = .running ∧ v.heap[Wg]? = some (gh [0,r,2]) ∧ ∃ g' child,g'.status = .running ∧ child.status = .running ∧
     (∀ u w,bo v u→a9 u→Msk u w→stepG P true g w = .spawn g' child w #[]) ∧
     (∀ u,bo v u→a9 u→cQ (XW P (n - (r + 1))) P false (pmW C u.heap.size) u.heap.size (TW P ty Wg C n tv (n - (r + 1))) child (iN C (n - (r + 1)) fv u)) ∧
     (∀ u,bo v u→a9 u→cQ (XB P ty Wg n) P true (pmM u.heap.size) u.heap.size (TM (r + 1) u.heap.size) g' (dw u Wg (gh (rU r))))
structure WX where
 tr:Tr
 run:Bool
 wd:WD
 s:Nat
 gm:List Nat
variable (Shun:Loc→Prop)
structure VW (ow:Nat→Nat) (i s:Nat) (γ:List Nat) (w u:World):Prop where
 nv:a9 u
 msk:Msk u w
 cell:∀ b,Row C b→∃ z,u.heap[b]? = some (slot i z)
 xi:∃ o,u.heap[Wg]? = some o ∧ isH o = true
 vis:∀ b,b < w.heap.size→Vis u b→(b < s ∧ ow b = 0) ∨ (s ≤ b ∧ ow b = i + 1)
 sl:∀ (b k:Nat) z,u.heap[b]? = some (slot k z)→Row C b ∧ k = i
 hid:∀ l,Shun l→lA u l
 gh:GhR u γ
 ro:∀ (b k:Nat) o z,u.heap[b]? = some o→Ro o k z→b = Duo.R
 own0:ow Duo.R = 0 ∧ Duo.R < s
structure RunW (ow:Nat→Nat) (i:Nat) (x:WX) (g:Goroutine) (w u:World):Prop extends VW Wg C Shun ow i x.s x.gm w u where
 wd:x.wd = ⟨7,0,0⟩
 run:∃ v,RunT (XW P i) P false (pmW C x.s) x.s (TW P ty Wg C n tv i) x.tr g v ∧ bo v u
 nl:x.tr ≠ .leaf
def xI (i:Nat) (wd:WD) (g:Goroutine) (w:World):Prop :=
 (wd.stage = 7 ∧ wd.deaf = 0 ∧ Goes P false (RW ty Wg C n 0 (i + 1 - 1)) DC0 (AtR0 P ty Wg C n 0 (i + 1) tv) wd.fuel g w) ∨ (wd.stage ≤ 6 ∧ WSit P ty Wg C n O0 O0 0 (i + 1) tv wd.stage wd.fuel wd.deaf g w)
def WOK (ow:Nat→Nat) (i:Nat) (x:WX) (g:Goroutine) (w:World):Prop :=
 (x.run = true ∧ ∃ u,RunW P ty Wg C n tv Shun ow i x g w u) ∨ (x.run = false ∧ x.tr = .leaf ∧ xI P ty Wg C n tv i x.wd g w ∧ ∃ u,VW Wg C Shun ow i x.s x.gm w u ∧ Duo.mF i u)
structure eL (ow:Nat→Nat) (l:List Nat) (w u:World):Prop where
 nv:a9 u
 msk:Msk u w
 vis:∀ b,b < w.heap.size→Vis u b→ow b = 0
 iR:∀ (b k:Nat) z,u.heap[b]? ≠ some (slot k z)
 kD:pe u
 hC:∀ b,Row C b ∨ b = Duo.R→∃ o,u.heap[b]? = some o ∧ isH o = true
 hW:u.heap[Wg]? = some (gh l)
 hid:∀ l,Shun l→lA u l
def iu:Loc→Option Nat
 | .cell a=>some a.block
 | .obj r=>some r
 | _=>none
def pls (j fr:Nat) (ow s:Nat→Nat):Pl where
 Sh:=ShN Wg
 Own k l:=(∃ b,iu l = some b ∧ ¬ Row C b ∧ b ≠ Duo.R ∧ b ≠ Wg ∧ ow b = k + 1) ∨ ∃ b,Row C b ∧ l = .cell ⟨b,k,none⟩
 Rd k l:=∃ b,iu l = some b ∧ ¬ Row C b ∧ b ≠ Wg ∧ ow b = 0 ∧ b < s k ∧ ¬ Shun l ∧ l ≠ .cell wdA
 Mn l:=∃ b,iu l = some b ∧ ¬ Row C b ∧ b ≠ Wg ∧ ow b = 0 ∧ ¬ Shun l ∧ l ≠ .cell wdA
 Fr l:=(∃ b,iu l = some b ∧ ¬ Row C b ∧ b ≠ Duo.R ∧ b ≠ Wg ∧ ow b = 0 ∧ fr ≤ b ∧ ¬ Shun l) ∨ ∃ b k,Row C b ∧ j ≤ k ∧ l = .cell ⟨b,k,none⟩
 At l:=l = .cell wdA
theorem pls_ok {j fr:Nat} {ow s:Nat→Nat} (hCW:¬ Row C Wg) (hRC:¬ Row C Duo.R) (hRW:Duo.R ≠ Wg) (hs:∀ k,k < j→s k ≤ fr):(pls Wg C Shun j fr ow s).OK j:=by
 have cb:∀ c k b,iu (.cell ⟨c,k,none⟩) = some b→b = c:=fun c k b h=>by simpa [iu] using h.symm
 have cw:∀ b k,Row C b→¬ ShN Wg (.cell ⟨b,k,none⟩):=fun b k hb ⟨a,h1,h2⟩=>by cases h1; exact hCW (h2 ▸ hb)
 have bw:∀ l b,iu l = some b→b ≠ Wg→¬ ShN Wg l:=fun l b h1 h2 ⟨a,h3,h4⟩=>by subst h3; simp [iu] at h1; omega
 have at':∀ {l b},iu l = some b→l = .cell wdA→b = Duo.R:=fun h1 h2=>by subst h2; simpa [iu,wdA] using h1.symm
 refine ⟨fun k k' l _ _ h h'=>?_,fun k k' l _ _ h h'=>?_,fun k l _ h h'=>?_,fun k l kj h h'=>?_,fun k l kj h h'=>?_,fun k l _ h=>?_,fun k l _ ⟨b,h1,h2,h3,_⟩=>bw l b h1 h3,fun l h=>?_,fun l ⟨b,h1,h2,h3,_⟩=>bw l b h1 h3,
  fun l h=>?_,fun k l _ h h'=>?_,fun k l _ ⟨_,_,_,_,_,_,_,h⟩=>h,fun l ⟨_,_,_,_,_,_,h⟩=>h,fun l h h'=>?_⟩
 ·rcases h with ⟨b,h1,h2,_,h3,h4⟩ | ⟨b,hb,rfl⟩
  ·rcases h' with ⟨b',g1,g2,_,g3,g4⟩ | ⟨b',hb',rfl⟩
   ·have:b = b':=Option.some.inj (h1.symm.trans g1);subst this; omega
   ·exact absurd (cb _ _ _ h1 ▸ hb') h2
  ·rcases h' with ⟨b',g1,g2,_,g3,g4⟩ | ⟨b',hb',e⟩
   ·exact absurd (cb _ _ _ g1 ▸ hb) g2
   ·simp at e; exact e.2
 ·obtain ⟨b',g1,g2,g3,g4,_⟩:=h'
  rcases h with ⟨b,h1,h2,_,h3,h4⟩ | ⟨b,hb,rfl⟩
  ·have:b = b':=Option.some.inj (h1.symm.trans g1);subst this; omega
  ·exact absurd (cb _ _ _ g1 ▸ hb) g2
 ·obtain ⟨b',g1,g2,g3,g4,_⟩:=h'
  rcases h with ⟨b,h1,h2,_,h3,h4⟩ | ⟨b,hb,rfl⟩
  ·have:b = b':=Option.some.inj (h1.symm.trans g1);subst this; omega
  ·exact absurd (cb _ _ _ g1 ▸ hb) g2
 ·rcases h' with ⟨b',g1,g2,_,g3,g4,_⟩ | ⟨b',k',hb',hk',rfl⟩
  ·rcases h with ⟨b,h1,h2,_,h3,h4⟩ | ⟨b,hb,rfl⟩
   ·have:b = b':=Option.some.inj (h1.symm.trans g1);subst this; omega
   ·exact absurd (cb _ _ _ g1 ▸ hb) g2
  ·rcases h with ⟨b,h1,h2,_,h3,h4⟩ | ⟨b,hb,e⟩
   ·exact absurd (cb _ _ _ h1 ▸ hb') h2
   ·simp at e; try omega
 ·obtain ⟨b,h1,h2,h3,h4,h5,_⟩:=h
  rcases h' with ⟨b',g1,g2,_,g3,g4,g5,_⟩ | ⟨b',k',hb',hk',rfl⟩
  ·have:b = b':=Option.some.inj (h1.symm.trans g1);subst this;have:=hs k kj;omega
  ·exact absurd (cb _ _ _ h1 ▸ hb') h2
 ·rcases h with ⟨b,h1,h2,_,h3,h4⟩ | ⟨b,hb,rfl⟩
  ·exact bw l b h1 h3
  ·exact cw b k hb
 ·rcases h with ⟨b,h1,h2,_,h3,h4,_⟩ | ⟨b,k,hb,_,rfl⟩
  ·exact bw l b h1 h3
  ·exact cw b k hb
 ·rintro ⟨a,h1,h2⟩;have h':l = .cell wdA:=h;rw [h'] at h1;cases h1;exact hRW h2
 ·rcases h with ⟨b,h1,_,h3,_⟩ | ⟨b,hb,rfl⟩
  ·exact h3 (at' h1 h')
  ·exact hRC (cb _ _ _ (show iu (.cell ⟨b,k,none⟩) = some Duo.R by rw [show Loc.cell ⟨b,k,none⟩ = .cell wdA from h']; rfl) ▸ hb)
 ·rcases h with ⟨b,h1,_,h3,_⟩ | ⟨b,k,hb,_,rfl⟩
  ·exact h3 (at' h1 h')
  ·exact hRC (cb _ _ _ (show iu (.cell ⟨b,k,none⟩) = some Duo.R by rw [show Loc.cell ⟨b,k,none⟩ = .cell wdA from h']; rfl) ▸ hb)
end
end Go.Gx
namespace Go.Gx
open Go Go.Conc Go.ConcN
open Go.ConcR (KK wgBlock WgAt stA smA rd wr mk Payload DC0 Bk g_of_ofEvents)
section
variable [Payload] [Duo] {P:Program} {ty:TypeId} {Wg C n:Nat} {fv tv:Value} {Fin:Goroutine→World→Prop} {Shun:Loc→Prop}
 {ow ow':Nat→Nat} {i j k:Nat} {γ γ':List Nat} {x y:WX} {g g':Goroutine} {w w' u ux ux':World} {l:List Nat} {fr:Nat}
theorem VW.notC {s:Nat} (h:VW Wg C Shun ow i s γ w u) {b:Nat} (hb:Row C b):¬ Vis u b:=fun hv=>by
 obtain ⟨z,hz⟩:=h.cell b hb;have:=hv _ hz;simp [isP,slot] at this
theorem VW.notW {s:Nat} (h:VW Wg C Shun ow i s γ w u):¬ Vis u Wg:=fun hv=>by
 obtain ⟨o,ho,hh⟩:=h.xi;have:=hv _ ho;rw [gM hh] at this; cases this
theorem VW.notR {s:Nat} (h:VW Wg C Shun ow i s γ w u):¬ Vis u Duo.R:=fun hv=>by
 have:=hv _ h.gh;rw [gM (oA γ)] at this; cases this
theorem VW.hidR {s:Nat} (h:VW Wg C Shun ow i s γ w u):∃ o,u.heap[Duo.R]? = some o ∧ isH o = true:=⟨_,h.gh,oA γ⟩
theorem VW.ltR {s:Nat} (h:VW Wg C Shun ow i s γ w u):Duo.R < w.heap.size:=by rw [h.msk.size]; exact aw h.gh
theorem eL.not (h:eL Wg C Shun ow l w u) {b:Nat} (hb:Row C b ∨ b = Duo.R):¬ Vis u b:=fun hv=>by
 obtain ⟨o,ho,hh⟩:=h.hC b hb;have:=hv _ ho;rw [gM hh] at this; cases this
theorem eL.notW (h:eL Wg C Shun ow l w u):¬ Vis u Wg:=fun hv=>by
 have:=hv _ h.hW;rw [gM (gh_H l)] at this; cases this
theorem ro_grow {u u':World} (g:bo u u') {B:Nat} (h:∀ (b k:Nat) o z,u.heap[b]? = some o→Ro o k z→b = B):∀ (b k:Nat) o z,u'.heap[b]? = some o→Ro o k z→b = B:=fun b k o z ho hr=>by
 by_cases hlt:b < u.heap.size
 ·rw [g.old b hlt] at ho; exact h b k o z ho hr
 ·rw [g.new b (by omega) (aw ho)] at ho;rw [← Option.some.inj ho] at hr;exact (iC hr).elim
theorem VW.other {pm:Nat→Prop} {s:Nat} (h:VW Wg C Shun ow i s γ w u) (t:ik pm ux ux') (b:Beside ux w ux' w') (mx:Msk ux w) (hw:∀ b,b < w.heap.size→ow' b = ow b)
 (sep:∀ b,b < w.heap.size→Vis u b→(∃ o,ux.heap[b]? = some o ∧ isH o = true) ∨ (Vis ux b ∧ ¬ pm b))
 (sl:∀ b,Row C b→(∃ o,ux.heap[b]? = some o ∧ isH o = true) ∨ (∃ k' z',ux.heap[b]? = some (slot k' z') ∧ k' ≠ i)) (hR:∃ o,ux.heap[Duo.R]? = some o ∧ isH o = true):VW Wg C Shun ow' i s γ w' (jf u w'):=by
 have gr:=dN u w';have m':=vD t b mx h.msk sep (fun b k z hz=>by
  obtain ⟨hb,rfl⟩:=h.sl b k z hz;exact sl b hb) (fun b o ho ⟨k,z,hr⟩=>by
  obtain rfl:=h.ro b k o z ho hr;exact hR)
 refine ⟨gr.nv h.nv,m',fun b hb=>?_,?_,fun b hb hvis=>?_,fun b k z hz=>h.sl b k z (gr.slot hz),fun l hl=>(h.hid l hl).grow gr,h.gh.grow gr,ro_grow gr h.ro,by rw [hw _ h.ltR]; exact h.own0⟩
 ·obtain ⟨z,hz⟩:=h.cell b hb;exact ⟨z,by rw [gr.old _ (aw hz)]; exact hz⟩
 ·obtain ⟨o,ho,hh⟩:=h.xi;exact ⟨o,by rw [gr.old _ (aw ho)]; exact ho,hh⟩
 ·obtain ⟨h1,h2⟩:=(gr.vis (by rw [← m'.size]; exact hb)).1 hvis;have h1':b < w.heap.size:=by rw [h.msk.size]; exact h1
  rw [hw b h1'];exact h.vis b h1' h2
theorem RunW.grow (h:RunW P ty Wg C n tv Shun ow i x g w u) {u':World} (gr:bo u u') (hv:VW Wg C Shun ow' i x.s x.gm w' u'):RunW P ty Wg C n tv Shun ow' i x g w' u' :=
 let ⟨v,h1,h2⟩:=h.run
 ⟨hv,h.wd,⟨v,h1,h2.trans gr⟩,h.nl⟩
theorem eL.other {pm:Nat→Prop} (h:eL Wg C Shun ow l w u) (t:ik pm ux ux') (b:Beside ux w ux' w') (mx:Msk ux w) (hw:∀ b,b < w.heap.size→ow' b = ow b)
 (sep:∀ b,b < w.heap.size→Vis u b→(∃ o,ux.heap[b]? = some o ∧ isH o = true) ∨ (Vis ux b ∧ ¬ pm b)):eL Wg C Shun ow' l w' (jf u w'):=by
 have gr:=dN u w';have m':=vD t b mx h.msk sep (fun b k z hz=>absurd hz (h.iR b k z)) fun b o ho ⟨k,z,hr⟩=>absurd hr (h.kD b k o z ho)
 refine ⟨gr.nv h.nv,m',fun b hb hvis=>?_,fun b k z hz=>h.iR b k z (gr.slot hz),h.kD.grow gr,fun b hb=>?_,by rw [gr.old _ (aw h.hW)]; exact h.hW,fun l hl=>(h.hid l hl).grow gr⟩
 ·obtain ⟨h1,h2⟩:=(gr.vis (by rw [← m'.size]; exact hb)).1 hvis;have h1':b < w.heap.size:=by rw [h.msk.size]; exact h1
  rw [hw b h1'];exact h.vis b h1' h2
 ·obtain ⟨o,ho,hh⟩:=h.hC b hb;exact ⟨o,by rw [gr.old _ (aw ho)]; exact ho,hh⟩
theorem sep_main {s:Nat} (h:VW Wg C Shun ow i s γ w u) (hm:eL Wg C Shun ow l w ux) (hs:s ≤ fr):∀ b,b < w.heap.size→Vis u b→(∃ o,ux.heap[b]? = some o ∧ isH o = true) ∨ (Vis ux b ∧ ¬ pmM fr b):=fun b hb hv=>by
 rcases tri ux b with h1 | h1 | ⟨k,z,h1⟩
 ·have h0:=hm.vis b hb h1
  rcases h.vis b hb hv with ⟨h2,_⟩ | ⟨_,h2⟩
  ·exact .inr ⟨h1,by unfold pmM; omega⟩
  ·omega
 ·exact .inl h1
 ·exact absurd h1 (hm.iR b k z)
theorem sep_work {s s':Nat} (h:VW Wg C Shun ow i s γ w u) (hk:VW Wg C Shun ow k s' γ' w ux) (hne:i ≠ k):∀ b,b < w.heap.size→Vis u b→(∃ o,ux.heap[b]? = some o ∧ isH o = true) ∨ (Vis ux b ∧ ¬ pmW C s' b):=fun b hb hv=>by
 have hbC:¬ Row C b:=fun e=>h.notC e hv
 rcases tri ux b with h1 | h1 | ⟨k',z,h1⟩
 ·rcases hk.vis b hb h1 with ⟨h3,h4⟩ | ⟨_,h4⟩
  ·exact .inr ⟨h1,fun h6=>h6.elim (fun h7=>by omega) fun h7=>h7.elim hbC fun h8=>h.notR (h8 ▸ hv)⟩
  ·rcases h.vis b hb hv with ⟨_,h2⟩ | ⟨_,h2⟩ <;> omega
 ·exact .inl h1
 ·exact absurd (hk.sl b k' z h1).1 hbC
theorem sep_of_work {s':Nat} (h:eL Wg C Shun ow l w u) (hk:VW Wg C Shun ow k s' γ' w ux):∀ b,b < w.heap.size→Vis u b→(∃ o,ux.heap[b]? = some o ∧ isH o = true) ∨ (Vis ux b ∧ ¬ pmW C s' b):=fun b hb hv=>by
 have hbC:¬ Row C b:=fun e=>h.not (.inl e) hv
 have h0:=h.vis b hb hv
 rcases tri ux b with h1 | h1 | ⟨k',z,h1⟩
 ·rcases hk.vis b hb h1 with ⟨h3,h4⟩ | ⟨_,h4⟩
  ·exact .inr ⟨h1,fun h6=>h6.elim (fun h7=>by omega) fun h7=>h7.elim hbC fun h8=>h.not (.inr h8) hv⟩
  ·omega
 ·exact .inl h1
 ·exact absurd (hk.sl b k' z h1).1 hbC
structure Left (Wg C n:Nat) (except:Nat→Prop) (w w':World):Prop where
 wg:w'.heap[Wg]? = w.heap[Wg]?
 pay:PayAt C n w→PayAt C n w'
 row:∀ b,Row C b→∀ i,¬ except i→(∃ cs e,w.heap[b]? = some (.cells cs e (0,0)))→w'.cell? ⟨b,i,none⟩ = w.cell? ⟨b,i,none⟩
 rows:∀ b,Row C b→∀ cs e,w.heap[b]? = some (.cells cs e (0,0))→∃ cs',w'.heap[b]? = some (.cells cs' e (0,0)) ∧ cs'.size = cs.size
 word:w'.heap[Duo.R]? = w.heap[Duo.R]?
theorem Left.cell {ex:Nat→Prop} (h:Left Wg C n ex w w') (i:Nat) (hi:¬ ex i):PayAt C n w→w'.cell? ⟨C,i,none⟩ = w.cell? ⟨C,i,none⟩:=fun ⟨cs,h1,_⟩=>h.row C (.inl rfl) i hi ⟨cs,_,h1⟩
theorem left_main (hm:eL Wg C Shun ow l w ux) (b:Beside ux w ux' w'):Left Wg C n (fun _=>False) w w':=by
 have hb:∀ c,Row C c ∨ c = Duo.R→w'.heap[c]? = w.heap[c]?:=fun c hc=>let ⟨o,ho,hh⟩:=hm.hC c hc; b.hid c o ho hh
 exact ⟨b.hid Wg _ hm.hW (gh_H l),fun ⟨cs,h1,h2⟩=>⟨cs,(hb C (.inl (.inl rfl))).trans h1,h2⟩,fun c hc i _ _=>cell_of_block (hb c (.inl hc)) i,fun c hc cs e h1=>⟨cs,(hb c (.inl hc)).trans h1,rfl⟩,hb _ (.inr rfl)⟩
theorem left_work {s:Nat} (hk:VW Wg C Shun ow k s γ w ux) (b:Beside ux w ux' w'):Left Wg C n (fun i=>i = k) w w':=by
 obtain ⟨o,ho,hh⟩:=hk.xi;refine ⟨b.hid Wg o ho hh,fun ⟨cs,h1,h2⟩=>?_,fun c hc i hi ⟨cs,e,h1⟩=>?_,fun c hc cs e h1=>?_,b.hid _ _ hk.gh (oA γ)⟩
 ·obtain ⟨z,hz⟩:=hk.cell C (.inl rfl);obtain ⟨c',g1,g2,_⟩:=b.sl C k z hz cs _ _ h1;exact ⟨c',g1,by rw [g2]; exact h2⟩
 ·obtain ⟨z,hz⟩:=hk.cell c hc;obtain ⟨c',g1,g2,g3⟩:=b.sl c k z hz cs _ _ h1;simp only [World.cell?,g1,h1,g3 i hi]
 ·obtain ⟨z,hz⟩:=hk.cell c hc;obtain ⟨c',g1,g2,g3⟩:=b.sl c k z hz cs _ _ h1;exact ⟨c',g1,g2⟩
theorem Left.rw {ex:Nat→Prop} (h:Left Wg C n ex w w') (hp:PayAt C n w) (hi:¬ ex i):RW ty Wg C n 0 (i + 1 - 1) w w' :=
 ⟨fun b hb=>by omega,fun ⟨st,sm,hl⟩=>⟨st,sm,hl.of_block h.wg⟩,h.pay,h.cell i hi hp⟩
theorem xI.rely {wd:WD} (h:xI P ty Wg C n tv i wd g w) (r:RW ty Wg C n 0 (i + 1 - 1) w w'):xI P ty Wg C n tv i wd g w' :=
 h.imp (fun ⟨h1,h2,h3⟩=>⟨h1,h2,Goes.rely (fun _ _ _ a b=>a.trans b) h3 r⟩) (fun ⟨h1,h2⟩=>⟨h1,h2.rely r⟩)
theorem xI.status {wd:WD} (h:xI P ty Wg C n tv i wd g w):g.status = .running ∨ g.status = .finished:=by
 rcases h with ⟨_,_,h⟩ | ⟨_,h⟩
 ·exact .inl (Goes.running (fun _ _ x=>x.1) w (RW.refl w) h)
 ·exact h.status
theorem WOK.other {ex:Nat→Prop} (h:WOK P ty Wg C n tv Shun ow i x g w) (hr:∀ u,VW Wg C Shun ow i x.s x.gm w u→∃ u',bo u u' ∧ VW Wg C Shun ow' i x.s x.gm w' u') (hl:Left Wg C n ex w w') (hp:PayAt C n w) (hi:¬ ex i):WOK P ty Wg C n tv Shun ow' i x g w':=by
 rcases h with ⟨h1,u,h2⟩ | ⟨h1,h2,h3,u,h4,h5⟩
 ·obtain ⟨u',g1,g2⟩:=hr u h2.toVW;exact .inl ⟨h1,u',h2.grow g1 g2⟩
 ·obtain ⟨u',g1,g2⟩:=hr u h4;exact .inr ⟨h1,h2,h3.rely (hl.rw hp hi),u',g2,Duo.post h5 g1⟩
theorem RunW.running (h:RunW P ty Wg C n tv Shun ow i x g w u):g.status = .running:=by
 obtain ⟨v,hv,_⟩:=h.run
 rcases hv.cases with ⟨h1,_⟩ | ⟨h1,_⟩
 ·exact absurd h1 h.nl
 ·exact h1
theorem WOK.status (h:WOK P ty Wg C n tv Shun ow i x g w):g.status = .running ∨ g.status = .finished:=by
 rcases h with ⟨_,u,h2⟩ | ⟨_,_,h3,_⟩
 ·exact .inl h2.running
 ·exact h3.status
theorem WOK.woken (h:WOK P ty Wg C n tv Shun ow i x g w) (a a':Goroutine) (w2:World):woken P a a' w2 g = g:=by
 unfold Go.Conc.woken;split
 ·exact again_running _ h.status
 ·rfl
structure dU (Wg:Nat) (w w':World):Prop where
 tape:w'.tape = w.tape
 os:w'.os = w.os
 output:w'.output = w.output
 size:w'.heap.size = w.heap.size
 block:∀ b:Nat,b ≠ Wg→b ≠ Duo.R→w'.heap[b]? = w.heap[b]?
 word:hH Duo.c0.length w.heap[Duo.R]? w'.heap[Duo.R]?
theorem dU.of_wg (h:Conc.Aside Wg w w') (hR:Duo.R ≠ Wg):dU Wg w w' :=
 ⟨h.tape,h.os,h.output,h.size,fun b hb _=>h.block b hb,by rw [h.block _ hR]; exact .refl _ _⟩
theorem dU.refl (w:World):dU Wg w w:=⟨rfl,rfl,rfl,rfl,fun _ _ _=>rfl,.refl _ _⟩
theorem dU.of_word {x:Value}:dU Wg w (w.setCell wdA x):=by
 refine ⟨rfl,rfl,rfl,by simp [World.setCell],fun b _ hb=>?_,fun c e z h=>?_⟩
 ·show (w.heap.modify Duo.R _)[b]? = _;rw [cL,if_neg (Ne.symm hb)]
 ·refine ⟨c.setIfInBounds Duo.c0.length x,?_,by simp,fun j hj=>by rw [Array.getElem?_setIfInBounds_ne (Ne.symm hj)]⟩;show (w.heap.modify Duo.R _)[Duo.R]? = _;rw [cL,if_pos rfl,h];simp [wdA]
theorem oF {b c:Nat} {z:Value} (hp:∃ cs e,w.heap[b]? = some (.cells cs e (0,0))) (h:w.cell? ⟨b,c,none⟩ = some z):∃ (cs:Array Value) (e:TypeId),w.heap[b]? = some (.cells cs e (0,0)) ∧ cs[c]? = some z:=by
 obtain ⟨cs,e,h1⟩:=hp;refine ⟨cs,e,h1,?_⟩
 simpa [World.cell?,h1] using h
theorem oG {b c:Nat} {z:Value} {cs:Array Value} {e:TypeId} (h1:w.heap[b]? = some (.cells cs e (0,0))) (h:cs[c]? = some z):w.cell? ⟨b,c,none⟩ = some z:=by
 simpa [World.cell?,h1] using h
structure Apart (Wg C:Nat):Prop where
 cw:¬ Row C Wg
 cr:¬ Row C Duo.R
 rw:Duo.R ≠ Wg
theorem dU.row (s:dU Wg w w') (a:Apart Wg C) {b:Nat} (hb:Row C b):w'.heap[b]? = w.heap[b]?:=s.block b (fun e=>a.cw (e ▸ hb)) (fun e=>a.cr (e ▸ hb))
theorem dU.pay (s:dU Wg w w') (a:Apart Wg C):PayAt C n w→PayAt C n w':=fun ⟨cs,h1,h2⟩=>⟨cs,(s.row a (.inl rfl)).trans h1,h2⟩
theorem dU.cell (s:dU Wg w w') (a:Apart Wg C) {b:Nat} (hb:Row C b) (i:Nat):w'.cell? ⟨b,i,none⟩ = w.cell? ⟨b,i,none⟩:=cell_of_block (s.row a hb) i
theorem VW.lib {a:Nat} (h:VW Wg C Shun ow i a γ w u) (s:dU Wg w w') (A:Apart Wg C):VW Wg C Shun ow i a γ w' (u.at w'.drawn):=by
 have m':Msk (u.at w'.drawn) w':=lib_msk h.msk s.tape s.os s.output s.size (fun b hv=>s.block b (fun e=>h.notW (e ▸ hv)) (fun e=>h.notR (e ▸ hv))) (fun b k z hz=>by
  obtain ⟨hb,rfl⟩:=h.sl b k z hz;rw [s.row A hb];exact h.msk.slot _ _ _ hz) (fun b k o z ho hr=>by
  obtain ⟨c,e,h1,h2⟩:=h.msk.ro b k o z ho hr;obtain rfl:=h.ro b k o z ho hr;obtain ⟨c',g1,_,g3⟩:=s.word c e _ h1;have hk:k ≠ Duo.c0.length:=by
   have h3:u.heap[Duo.R]? = _:=h.gh;rw [ho] at h3;rw [Option.some.inj h3] at hr;have:=(jM.1 hr).1;omega
  exact ⟨c',e,g1,by rw [g3 k hk]; exact h2⟩)
 exact ⟨h.nv,m',h.cell,h.xi,fun b hb hv=>h.vis b (by rw [← s.size]; exact hb) hv,h.sl,h.hid,h.gh,h.ro,h.own0⟩
theorem eL.lib (h:eL Wg C Shun ow l w u) (s:dU Wg w w'):eL Wg C Shun ow l w' (u.at w'.drawn) :=
 ⟨h.nv,lib_msk h.msk s.tape s.os s.output s.size (fun b hv=>s.block b (fun e=>h.notW (e ▸ hv)) (fun e=>h.not (.inr rfl) (e ▸ hv))) (fun b k z hz=>absurd hz (h.iR b k z)) (fun b k o z ho hr=>absurd hr (h.kD b k o z ho)),fun b hb hv=>h.vis b (by rw [← s.size]; exact hb) hv,h.iR,h.kD,h.hC,h.hW,h.hid⟩
theorem WOK.lib (h:WOK P ty Wg C n tv Shun ow i x g w) (s:dU Wg w w') (A:Apart Wg C) (hl:WgLive ty Wg w'):WOK P ty Wg C n tv Shun ow i x g w':=by
 rcases h with ⟨h1,u,h2⟩ | ⟨h1,h2,h3,u,h4,h5⟩
 ·exact .inl ⟨h1,_,h2.grow (bo.at u _) (h2.toVW.lib s A)⟩
 ·exact .inr ⟨h1,h2,h3.rely ⟨fun b hb=>by omega,fun _=>hl,s.pay A,s.cell A (.inl rfl) i⟩,_,h4.lib s A,Duo.post h5 (bo.at u _)⟩
theorem eL.dw (h:eL Wg C Shun ow l w u) (l':List Nat) (A:Apart Wg C) (hS:∀ a,a.block = Wg→¬ Shun (.cell a)):eL Wg C Shun ow l' w (dw u Wg (gh l')):=by
 have hWl:=aw h.hW;have ge:∀ b,b ≠ Wg→(Gx.dw u Wg (gh l')).heap[b]? = u.heap[b]?:=fun b hb=>dJ (Ne.symm hb)
 have vi:∀ b,Vis (Gx.dw u Wg (gh l')) b→b ≠ Wg ∧ Vis u b:=fun b hv=>by
  have hb:b ≠ Wg:=fun e=>by
   subst e;have:=hv _ (cR hWl);rw [gM (gh_H l')] at this; cases this
  exact ⟨hb,fun o ho=>hv o (by rw [ge b hb]; exact ho)⟩
 have ns:∀ (b k:Nat) z,(Gx.dw u Wg (gh l')).heap[b]? ≠ some (slot k z):=fun b k z hz=>by
  by_cases e:b = Wg
  ·subst e;rw [cR hWl] at hz;have:=gh_H l';rw [Option.some.inj hz] at this;simp [isH,slot] at this
  ·rw [ge b e] at hz;exact h.iR b k z hz
 have nr:pe (Gx.dw u Wg (gh l')):=fun b k o z ho hr=>by
  by_cases e:b = Wg
  ·subst e;rw [cR hWl] at ho;rw [← Option.some.inj ho] at hr;exact iC hr
  ·rw [ge b e] at ho;exact h.kD b k o z ho hr
 refine ⟨j1 h.nv rfl,⟨by rw [di]; exact h.msk.size,h.msk.tape,h.msk.drawn,h.msk.os,h.msk.output,fun b hv=>?_,fun b k z hz=>absurd hz (ns b k z),fun b k o z ho hr=>absurd hr (nr b k o z ho)⟩,fun b hb hv=>h.vis b hb (vi b hv).2,ns,nr,fun b hb=>?_,cR hWl,fun l hl=>?_⟩
 ·obtain ⟨hb,hv'⟩:=vi b hv;rw [ge b hb];exact h.msk.vis b hv'
 ·obtain ⟨o,ho,hh⟩:=h.hC b hb;exact ⟨o,by rw [ge b fun e=>by subst e; exact hb.elim A.cw fun e=>A.rw e.symm]; exact ho,hh⟩
 ·obtain ⟨a,o,h1,h2,h3⟩:=h.hid l hl;subst h1;exact ⟨a,o,rfl,by rw [ge a.block (fun e=>hS a e hl)]; exact h2,h3⟩
def owN (ow:Nat→Nat) (a b k:Nat):Nat→Nat:=fun x=>if a ≤ x ∧ x < b then k + 1 else ow x
theorem VW.own {a:Nat} (h:VW Wg C Shun ow i a γ w u) (t:ik (pmW C a) u ux') (b:Beside u w ux' w') (hs:a ≤ w.heap.size):VW Wg C Shun (owN ow w.heap.size w'.heap.size i) i a γ w' ux':=by
 refine ⟨t.nv h.nv,b.msk,fun c hc=>?_,?_,fun c hc hv=>?_,fun c k z hz=>?_,fun l hl=>(h.hid l hl).mw t,t.hid _ _ h.gh (oA γ),fun c k o z ho hr=>?_,?_⟩
 ·obtain ⟨z,hz⟩:=h.cell c hc;exact t.sl c i z hz
 ·obtain ⟨o,ho,hh⟩:=h.xi;exact ⟨o,t.hid Wg o ho hh,hh⟩
 ·unfold owN
  by_cases hlt:c < w.heap.size
  ·rw [if_neg (by omega)];exact h.vis c hlt ((t.vis_iff (by rw [← h.msk.size]; exact hlt)).1 hv)
  ·rw [if_pos ⟨by omega,hc⟩];exact .inr ⟨by omega,rfl⟩
 ·by_cases hlt:c < w.heap.size
  ·obtain ⟨y,hy⟩:=t.slot_old (by rw [← h.msk.size]; exact hlt) hz;exact h.sl c k y hy
  ·have:=t.fresh c _ (by rw [← h.msk.size]; omega) hz;simp [isP,slot] at this
 ·have hP:=gM hr.isH
  by_cases hlt:c < u.heap.size
  ·rcases tri u c with h1 | ⟨o',h1,h2⟩ | ⟨k',z',h1⟩
   ·have:=t.vis c h1 _ ho;rw [hP] at this; cases this
   ·rw [t.hid c o' h1 h2] at ho;rw [← Option.some.inj ho] at hr;exact h.ro c k o' z h1 hr
   ·obtain ⟨y,hy⟩:=t.sl c k' z' h1;rw [hy] at ho;have:=hr.isH;rw [← Option.some.inj ho] at this;cases this
  ·have:=t.fresh c _ (by omega) ho;rw [hP] at this; cases this
 ·have:=h.ltR;unfold owN;rw [if_neg (by omega)];exact h.own0
theorem eL.own (h:eL Wg C Shun ow l w u) (t:ik (pmM fr) u ux') (b:Beside u w ux' w') (hf:∀ b,w.heap.size ≤ b→ow b = 0):eL Wg C Shun ow l w' ux':=by
 refine ⟨t.nv h.nv,b.msk,fun c hc hv=>?_,fun c k z hz=>?_,h.kD.mw t,fun c hc=>?_,t.hid Wg _ h.hW (gh_H l),fun l hl=>(h.hid l hl).mw t⟩
 ·by_cases hlt:c < w.heap.size
  ·exact h.vis c hlt ((t.vis_iff (by rw [← h.msk.size]; exact hlt)).1 hv)
  ·exact hf c (by omega)
 ·by_cases hlt:c < w.heap.size
  ·obtain ⟨y,hy⟩:=t.slot_old (by rw [← h.msk.size]; exact hlt) hz;exact h.iR c k y hy
  ·have:=t.fresh c _ (by rw [← h.msk.size]; omega) hz;simp [isP,slot] at this
 ·obtain ⟨o,ho,hh⟩:=h.hC c hc;exact ⟨o,t.hid c o ho hh,hh⟩
theorem WOK.mk {tr:Tr} {s:Nat} {v:World} (hr:RunT (XW P i) P false (pmW C s) s (TW P ty Wg C n tv i) tr g v) (hg:bo v u) (hv:VW Wg C Shun ow i s γ w u) (hl:WgLive ty Wg w) :
 ∃ x:WX,x.s = s ∧ x.wd.stage = 7 ∧ x.wd.deaf = 0 ∧ x.tr = tr ∧ x.gm = γ ∧ WOK P ty Wg C n tv Shun ow i x g w:=by
 by_cases hnl:tr = .leaf
 ·subst hnl
  rcases hr.cases with ⟨_,h1,hp,h2⟩ | ⟨_,hrun,_⟩
  ·obtain ⟨c,e,g1,g2⟩:=hv.msk.slot C i tv (by rw [hg.old _ (aw h1)]; exact h1);exact ⟨⟨.leaf,false,⟨7,23,0⟩,s,γ⟩,rfl,rfl,rfl,rfl,rfl,.inr ⟨rfl,rfl,.inl ⟨rfl,rfl,h2 w hl (oG g1 g2)⟩,u,hv,Duo.post hp hg⟩⟩
  ·exact absurd rfl hrun
 ·exact ⟨⟨tr,true,⟨7,0,0⟩,s,γ⟩,rfl,rfl,rfl,rfl,rfl,.inl ⟨rfl,u,hv,rfl,⟨v,hr,hg⟩,hnl⟩⟩
end
end Go.Gx
namespace Go.Gx
open Go Go.Conc Go.ConcN
open Go.ConcR (KK wgBlock WgAt stA smA rd wr mk Payload DC0 Bk g_of_ofEvents)
theorem touch_low {m:MemAct} {x:Touch} {B b:Nat} (h:m.touch? = some x) (hl:m.low B) (hb:iu x.loc = some b):b < B:=by
 cases m with
 | access e =>
   simp only [MemAct.touch?,Option.some.injEq] at h;subst h;obtain ⟨loc,wr,sy⟩:=e;cases loc <;> simp [iu] at hb <;> (subst hb; exact hl)
 | mark m=>cases m <;> simp [MemAct.touch?] at h <;> (subst h; simp [iu] at hb; subst hb; exact hl)
 | _=>simp only [MemAct.touch?,Option.some.injEq,reduceCtorEq] at h <;> (subst h; simp only [iu,Option.some.injEq,reduceCtorEq] at hb; subst hb; exact hl)
theorem fresh_low {t:Trace} {B b:Nat} {l:Loc} (h:∀ op ∈ t,op.act.low B) (hb:iu l = some b) (hB:B ≤ b):mr t l:=fun i a ha e=>by
 obtain ⟨op,ho,hot⟩:=touch_of ha;have:=touch_low hot (h op (Array.mem_of_getElem? ho)) (e ▸ hb);omega
theorem ofEvent_dis {e:Event} (h:e.loc ≠ .mark .disable ∧ e.loc ≠ .mark .enable):MemAct.ofEvent e ≠ .mark .disable ∧ MemAct.ofEvent e ≠ .mark .enable:=by
 obtain ⟨loc,wr,sy⟩:=e;cases loc with
 | mark m=>exact ⟨fun e=>h.1 (by simpa [MemAct.ofEvent] using e),fun e=>h.2 (by simpa [MemAct.ofEvent] using e)⟩
 | _=>cases wr <;> cases sy <;> simp [MemAct.ofEvent]
section
variable [Payload] [Duo] [Bad] (P:Program) (ty:TypeId) (Wg C n:Nat) (fv tv:Value) (Shun:Loc→Prop)
def gms (j:Nat) (D:Nat→WX):Nat→List Nat:=fun i=>if i < j then (D i).gm else Duo.ini
theorem c0_lt [Duo] {x:Value} {k:Nat} (h:k < Duo.c0.length):(Duo.c0 ++ [x]).toArray[k]? = Duo.c0[k]?:=by
 rw [List.getElem?_toArray,List.getElem?_append_left h]
theorem c0_at [Duo] {x:Value}:(Duo.c0 ++ [x]).toArray[Duo.c0.length]? = some x:=by simp
def uC (w:World) (γs:Nat→List Nat):Prop :=
 ∃ σ:Nat,w.heap[Duo.R]? = some (.cells (Duo.c0 ++ [Value.int .u64 (σ:Nat)]).toArray Duo.tyR (0,0)) ∧ Duo.J σ γs
def Row2 (n:Nat) (w:World):Prop:=∃ cs,w.heap[Duo.C2]? = some (.cells cs Duo.ty2 (0,0)) ∧ cs.size = n
theorem Row2.ex {n:Nat} {w:World} (h:Row2 n w):∃ cs e,w.heap[Duo.C2]? = some (.cells cs e (0,0)):=let ⟨cs,h1,_⟩:=h; ⟨cs,_,h1⟩
structure lB (base j:Nat) (gs:Array Goroutine) (w:World) (t:Trace) (D:Nat→WX) (d0:Nat) (q ow:Nat→Nat) (fr:Nat):Prop where
 pos:0 < base
 size:gs.size = base + j
 old:∀ i g,0 < i→i < base→gs[i]? = some g→QuitsD P (q i) (Deaf t i) g
 wk:∀ i,i < j→∃ g,gs[base + i]? = some g ∧ WOK P ty Wg C n tv Shun ow i (D i) g w
 ct:CTP (pls Wg C Shun j fr ow (fun i=>(D i).s)) base Shun w.heap.size j t
 norel:∀ a,NoRelease a t
 deaf0:Deaf t 0 = d0
 deafW:∀ i,i < j→Deaf t (base + i) = (D i).wd.deaf
 rel:∀ i,i < j→(D i).wd.stage ≤ 6→∃ r,RelBy (stA Wg) t (base + i) r
 has:∀ i,i < j→(D i).wd.stage ≤ 6→Has C i tv w
 un:∀ i,j ≤ i→i < n→Has C i fv w
 pay:PayAt C n w
 un2:∀ i,j ≤ i→i < n→w.cell? ⟨Duo.C2,i,none⟩ = some Duo.fv2
 uR:Row2 n w
 word:uC w (gms j D)
 owR:ow Duo.R = 0
 owj:∀ b,ow b ≤ j
 owf:∀ b,w.heap.size ≤ b→ow b = 0
 sfr:∀ i,i < j→(D i).s ≤ fr
 frs:fr ≤ w.heap.size
 ap:Apart Wg C
 c2:C ≠ Duo.C2
 ltC:∀ b,Row C b ∨ b = Duo.R→b < w.heap.size
 ltW:Wg < w.heap.size
 kept:uK Shun w
end
section
variable [Payload] [Duo] [Bad] {P:Program} {ty:TypeId} {Wg C n:Nat} {fv tv:Value} {Shun:Loc→Prop}
 {base j:Nat} {gs:Array Goroutine} {w w':World} {t:Trace} {D:Nat→WX} {d0:Nat} {q ow ow':Nat→Nat} {fr k:Nat} {g g' a':Goroutine} {es:Array Event} {fn:FuncId} {pos:String}
theorem lB.ok (h:lB P ty Wg C n fv tv Shun base j gs w t D d0 q ow fr) (ow':Nat→Nat):(pls Wg C Shun j fr ow' (fun i=>(D i).s)).OK j:=pls_ok Wg C Shun h.ap.cw h.ap.cr h.ap.rw h.sfr
theorem lB.at (h:lB P ty Wg C n fv tv Shun base j gs w t D d0 q ow fr) (d:Nat):lB P ty Wg C n fv tv Shun base j gs (w.at d) t D d0 q ow fr:=by
 have s:dU Wg w (w.at d):=⟨rfl,rfl,rfl,rfl,fun _ _ _=>rfl,.refl _ _⟩;refine ⟨h.pos,h.size,h.old,fun i hi=>?_,h.ct,h.norel,h.deaf0,h.deafW,h.rel,h.has,h.un,h.pay,h.un2,h.uR,h.word,h.owR,h.owj,h.owf,h.sfr,h.frs,h.ap,h.c2,h.ltC,h.ltW,h.kept.step fun _ _=>rfl⟩;obtain ⟨g,hg,hw⟩:=h.wk i hi;refine ⟨g,hg,?_⟩
 rcases hw with ⟨h1,u,h2⟩ | ⟨h1,h2,h3,u,h4,h5⟩
 ·exact .inl ⟨h1,_,h2.grow (bo.at u _) (h2.toVW.lib s h.ap)⟩
 ·exact .inr ⟨h1,h2,h3.rely (RW.at w d),_,h4.lib s h.ap,Duo.post h5 (bo.at u _)⟩
theorem pK {B:Nat} (h:∀ e ∈ es,(MemAct.ofEvent e).low B):∀ op ∈ MemOp.ofEvents k fn pos es,op.act.low B:=fun op hop=>by
 obtain ⟨e,he,rfl⟩:=Conc.mem_ofEvents hop;exact h e he
theorem lB.stepW (h:lB P ty Wg C n fv tv Shun base j gs w t D d0 q ow fr) (hk:k < j) {x':WX} (hg:gs[base + k]? = some g) (hsz:w.heap.size ≤ w'.heap.size)
 (how:∀ b,b < w.heap.size→ow' b = ow b) (how1:∀ b,w.heap.size ≤ b→ow' b = 0 ∨ (ow' b = k + 1 ∧ b < w'.heap.size))
 (hoth:∀ i,i < j→i ≠ k→∀ g,WOK P ty Wg C n tv Shun ow i (D i) g w→WOK P ty Wg C n tv Shun ow' i (D i) g w')
 (hx:WOK P ty Wg C n tv Shun ow' k x' g' w') (hxs:x'.s = (D k).s)
 (hok:∀ e ∈ es,(pls Wg C Shun j fr ow' (fun i=>(D i).s)).OkW base k { g:=base + k,fn,pos,act:=.ofEvent e }) (hlow:∀ e ∈ es,(MemAct.ofEvent e).low w'.heap.size)
 (hnr:∀ e ∈ es,∀ a,MemAct.ofEvent e ≠ .mark (.release a)) (hdeaf:deafBehind (D k).wd.deaf es = x'.wd.deaf)
 (hrel:x'.wd.stage ≤ 6→∃ r,RelBy (stA Wg) (t ++ MemOp.ofEvents (base + k) fn pos es) (base + k) r)
 (hhas:∀ i,i < j→(upd D k x' i).wd.stage ≤ 6→Has C i tv w') (hun:∀ i,j ≤ i→i < n→Has C i fv w') (hpay:PayAt C n w') (hkp:∀ b,Shun (.cell ⟨b,0,none⟩)→w'.heap[b]? = w.heap[b]?)
 (hun2:∀ i,j ≤ i→i < n→w'.cell? ⟨Duo.C2,i,none⟩ = some Duo.fv2) (hpay2:Row2 n w') (hword:uC w' (gms j (upd D k x')))
 (hsy:(∀ e ∈ es,∀ x,(MemAct.ofEvent e).touch? = some x→x.kind = .atomic→ShN Wg x.loc) ∨ ((D k).wd.deaf = 0 ∧ ∀ e ∈ es,e.loc ≠ .mark .disable ∧ e.loc ≠ .mark .enable)) :
 lB P ty Wg C n fv tv Shun base j ((gs.map (woken P g g' w')).setIfInBounds (base + k) g') w' (t ++ MemOp.ofEvents (base + k) fn pos es) (upd D k x') d0 q ow' fr:=by
 have hp:=h.pos;have hs:(fun i=>(upd D k x' i).s) = fun i=>(D i).s:=funext fun i=>by
  by_cases e:i = k
  ·subst e; rw [upd_same,hxs]
  ·rw [upd_ne D _ e]
 have ho:∀ op ∈ MemOp.ofEvents (base + k) fn pos es,op.g = base + k:=g_of_ofEvents;have hct:CTP (pls Wg C Shun j fr ow' (fun i=>(D i).s)) base Shun w'.heap.size j (t ++ MemOp.ofEvents (base + k) fn pos es):=by
  have c1:CTP (pls Wg C Shun j fr ow' (fun i=>(D i).s)) base Shun w'.heap.size j t:=by
   have key:∀ b l,iu l = some b→b < w.heap.size ∨ mr t l:=fun b l hb=>by
    by_cases hlt:b < w.heap.size
    ·exact .inl hlt
    ·exact .inr (fresh_low h.ct.seen hb (by omega))
   refine h.ct.change (fun l=>.rfl) (fun i hi l hl=>?_) (fun i hi l hl=>?_) (fun l hl=>?_) (fun l hl=>?_) (fun _ hl=>hl) hsz
   ·rcases hl with ⟨b,h1,h2,h2',h3,h4⟩ | hl
    ·exact (key b l h1).imp (fun hlt=>.inl ⟨b,h1,h2,h2',h3,by rw [← how b hlt]; exact h4⟩) id
    ·exact .inl (.inr hl)
   ·obtain ⟨b,h1,h2,h3,h4,h5⟩:=hl;exact (key b l h1).imp (fun hlt=>⟨b,h1,h2,h3,by rw [← how b hlt]; exact h4,h5⟩) id
   ·rcases hl with ⟨b,h1,h2,h2',h3,h4,h5⟩ | hl
    ·exact (key b l h1).imp (fun hlt=>.inl ⟨b,h1,h2,h2',h3,by rw [← how b hlt]; exact h4,h5⟩) id
    ·exact .inl (.inr hl)
   ·obtain ⟨b,h1,h2,h3,h4,h5⟩:=hl;exact (key b l h1).imp (fun hlt=>⟨b,h1,h2,h3,by rw [← how b hlt]; exact h4,h5⟩) id
  exact c1.appW (h.ok ow') hk (fun op hop=>by
   obtain ⟨e,he,rfl⟩:=Conc.mem_ofEvents hop;exact hok e he) (pK hlow) (hsy.imp (fun hy op hop x hx hk=>by
   obtain ⟨e,he,rfl⟩:=Conc.mem_ofEvents hop;exact hy e he x hx hk) fun ⟨h0,hst⟩=>⟨by rw [h.deafW k hk]; exact h0,fun op hop=>by
   obtain ⟨e,he,rfl⟩:=Conc.mem_ofEvents hop;exact ofEvent_dis (hst e he)⟩)
 refine ⟨hp,by simp [h.size],fun i g0 h0 hb hi=>?_,fun i hi=>?_,by rw [hs]; exact hct,fun a=>ki (h.norel a) fun e he=>hnr e he a,by rw [Deaf_other t (by omega) _ ho,h.deaf0],fun i hi=>?_,fun i hi hst=>?_,hhas,hun,hpay,hun2,hpay2,hword,by rw [how _ (h.ltC _ (.inr rfl))]; exact h.owR,
  fun b=>?_,fun b hb=>?_,fun i hi=>by rw [show (upd D k x' i).s = (D i).s from congrFun hs i]; exact h.sfr i hi,Nat.le_trans h.frs hsz,h.ap,h.c2,fun b hb=>Nat.lt_of_lt_of_le (h.ltC b hb) hsz,Nat.lt_of_lt_of_le h.ltW hsz,h.kept.step hkp⟩
 ·rw [Array.getElem?_setIfInBounds_ne (by omega),Array.getElem?_map] at hi;obtain ⟨y,hy,rfl⟩:=Option.map_eq_some_iff.1 hi;have hq:=h.old i y h0 hb hy;rw [woken_quitsD hq,Deaf_other t (by omega) _ ho];exact hq
 ·by_cases e:i = k
  ·subst e;exact ⟨g',get_map_set_same _ _ _ (by rw [h.size]; omega),by rw [upd_same]; exact hx⟩
  ·obtain ⟨y,hy,hsy⟩:=h.wk i hi;refine ⟨y,by rw [get_map_set _ _ _ _ (by omega),hy,Option.map_some,hsy.woken],?_⟩;rw [upd_ne D _ e];exact hoth i hi e y hsy
 ·by_cases e:i = k
  ·subst e; rw [Deaf_own,h.deafW i hi,upd_same]; exact hdeaf
  ·rw [Deaf_other t (by omega) _ ho,h.deafW i hi,upd_ne D _ e]
 ·by_cases e:i = k
  ·subst e; rw [upd_same] at hst; exact hrel hst
  ·rw [upd_ne D _ e] at hst;obtain ⟨r,hr⟩:=h.rel i hi hst;exact ⟨r,hr.appOther ho (by omega)⟩
 ·by_cases hlt:b < w.heap.size
  ·rw [how b hlt]; exact h.owj b
  ·rcases how1 b (by omega) with h1 | ⟨h1,_⟩ <;> omega
 ·rcases how1 b (by omega) with h1 | ⟨h1,h2⟩ <;> omega
theorem lB.step0 (h:lB P ty Wg C n fv tv Shun base j gs w t D d0 q ow fr) (hsz:w.heap.size ≤ w'.heap.size)
 (hoth:∀ i,i < j→∀ g,WOK P ty Wg C n tv Shun ow i (D i) g w→WOK P ty Wg C n tv Shun ow i (D i) g w')
 (hok:∀ e ∈ es,(pls Wg C Shun j fr ow (fun i=>(D i).s)).Ok0 { g:=0,fn,pos,act:=.ofEvent e }) (hlow:∀ e ∈ es,(MemAct.ofEvent e).low w'.heap.size)
 (hnr:∀ e ∈ es,∀ a,MemAct.ofEvent e ≠ .mark (.release a)) (hhas:∀ i,i < j→(D i).wd.stage ≤ 6→Has C i tv w') (hun:∀ i,j ≤ i→i < n→Has C i fv w') (hpay:PayAt C n w') (hkp:∀ b,Shun (.cell ⟨b,0,none⟩)→w'.heap[b]? = w.heap[b]?)
 (h2:w'.heap[Duo.C2]? = w.heap[Duo.C2]?) (hR:w'.heap[Duo.R]? = w.heap[Duo.R]?) :
 lB P ty Wg C n fv tv Shun base j ((gs.map (woken P g a' w')).setIfInBounds 0 a') w' (t ++ MemOp.ofEvents 0 fn pos es) D (deafBehind d0 es) q ow fr:=by
 have hp:=h.pos;have ho:∀ op ∈ MemOp.ofEvents 0 fn pos es,op.g = 0:=g_of_ofEvents;refine ⟨hp,by simp [h.size],fun i g0 h0 hb hi=>?_,fun i hi=>?_,?_,fun a=>ki (h.norel a) fun e he=>hnr e he a,by rw [Deaf_own,h.deaf0],fun i hi=>by rw [Deaf_other t (by omega) _ ho,h.deafW i hi],fun i hi hst=>?_,hhas,hun,hpay,fun i h3 h4=>(cell_of_block h2 i).trans (h.un2 i h3 h4),(let ⟨cs,h3,h4⟩:=h.uR; ⟨cs,h2.trans h3,h4⟩),(let ⟨σ,h3,h4⟩:=h.word; ⟨σ,hR.trans h3,h4⟩),h.owR,h.owj,fun b hb=>h.owf b (by omega),h.sfr,Nat.le_trans h.frs hsz,h.ap,h.c2,fun b hb=>Nat.lt_of_lt_of_le (h.ltC b hb) hsz,Nat.lt_of_lt_of_le h.ltW hsz,h.kept.step hkp⟩
 ·rw [Array.getElem?_setIfInBounds_ne (by omega),Array.getElem?_map] at hi;obtain ⟨y,hy,rfl⟩:=Option.map_eq_some_iff.1 hi;have hq:=h.old i y h0 hb hy;rw [woken_quitsD hq,Deaf_other t (by omega) _ ho];exact hq
 ·obtain ⟨y,hy,hsy⟩:=h.wk i hi;exact ⟨y,by rw [get_map_set _ _ _ _ (by omega),hy,Option.map_some,hsy.woken],hoth i hi y hsy⟩
 ·exact (h.ct.change (fun l=>.rfl) (fun i hi l hl=>.inl hl) (fun i hi l hl=>.inl hl) (fun l hl=>.inl hl) (fun l hl=>.inl hl) (fun _ hl=>hl) hsz).app0 (h.ok ow) (fun op hop=>by
   obtain ⟨e,he,rfl⟩:=Conc.mem_ofEvents hop;exact hok e he) (pK hlow)
 ·obtain ⟨r,hr⟩:=h.rel i hi hst;exact ⟨r,hr.appOther ho (by omega)⟩
theorem lB.slip (h:lB P ty Wg C n fv tv Shun base j gs w t D d0 q ow fr) {i k:Nat} (h0:0 < i) (hb:i < base) (hg:gs[i]? = some g) (hq':QuitsD P k (deafBehind (Deaf t i) es) g') (hm:∀ e ∈ es,e.mute = true) :
 lB P ty Wg C n fv tv Shun base j ((gs.map (woken P g g' w)).setIfInBounds i g') w (t ++ MemOp.ofEvents i fn pos es) D d0 (upd q i k) ow fr:=by
 have hp:=h.pos;have ho:∀ op ∈ MemOp.ofEvents i fn pos es,op.g = i:=g_of_ofEvents;refine ⟨hp,by simp [h.size],fun y g0 hy0 hb hi=>?_,fun y hy=>?_,?_,fun a=>ki (h.norel a) fun e he=>tD (hm e he) a,by rw [Deaf_other t (by omega) _ ho,h.deaf0],fun y hy=>by rw [Deaf_other t (by omega) _ ho,h.deafW y hy],fun y hy hst=>?_,h.has,h.un,h.pay,h.un2,h.uR,h.word,h.owR,h.owj,h.owf,h.sfr,h.frs,h.ap,h.c2,h.ltC,h.ltW,h.kept⟩
 ·by_cases e:i = y
  ·subst e;rw [get_map_set_same _ _ _ (by rw [h.size]; omega)] at hi;obtain rfl:=Option.some.inj hi;rw [upd_same,Deaf_own];exact hq'
  ·rw [Array.getElem?_setIfInBounds_ne e,Array.getElem?_map] at hi;obtain ⟨z,hz,rfl⟩:=Option.map_eq_some_iff.1 hi;have hq:=h.old y z hy0 hb hz;rw [woken_quitsD hq,Deaf_other t (by omega) _ ho,upd_ne q _ (Ne.symm e)];exact hq
 ·obtain ⟨z,hz,hsz⟩:=h.wk y hy;exact ⟨z,by rw [get_map_set _ _ _ _ (by omega),hz,Option.map_some,hsz.woken],hsz⟩
 ·exact h.ct.appMute (g:=i) (by omega) (fun op hop=>by
   obtain ⟨e,he,rfl⟩:=Conc.mem_ofEvents hop;exact ⟨rfl,touch_mute (hm e he)⟩) (fun op hop=>by
   obtain ⟨e,he,rfl⟩:=Conc.mem_ofEvents hop;exact low_mute (hm e he) _)
 ·obtain ⟨r,hr⟩:=h.rel y hy hst;exact ⟨r,hr.appOther ho (by omega)⟩
theorem lB.spawn (h:lB P ty Wg C n fv tv Shun base j gs w t D 0 q ow fr) {child:Goroutine} {x y:MemOp} {x':WX} (hx:x.g = 0 ∧ x.act = .go (base + j)) (hy:y.g = base + j ∧ y.act = .start) (hjn:j < n)
 (hs:x'.s = w.heap.size) (h7:x'.wd.stage = 7) (hd:x'.wd.deaf = 0) (hgm:x'.gm = Duo.ini) (hc:WOK P ty Wg C n tv Shun ow j x' child w) :
 lB P ty Wg C n fv tv Shun base (j + 1) ((gs.setIfInBounds 0 a').push child) w (t ++ #[x,y]) (upd D j x') 0 q ow w.heap.size:=by
 have hp:=h.pos;have hm:∀ op ∈ #[x,y],op = x ∨ op = y:=by intro op hop; simpa using hop
 have hst:∀ op ∈ #[x,y],op.act ≠ .mark .disable ∧ op.act ≠ .mark .enable:=by
  intro op hop
  rcases hm op hop with rfl | rfl
  ·rw [hx.2]; exact ⟨by simp,by simp⟩
  ·rw [hy.2]; exact ⟨by simp,by simp⟩
 have hnot:∀ g,0 < g→g < base + j→∀ op ∈ #[x,y],op.g ≠ g:=fun g g0 gl op hop=>by
  rcases hm op hop with rfl | rfl
  ·rw [hx.1]; omega
  ·rw [hy.1]; omega
 refine ⟨hp,by simp [h.size]; omega,fun i g0 h0 hb hi=>?_,fun i hi=>?_,?_,fun a=>(h.norel a).app fun op hop=>?_,by rw [Deaf_still t 0 _ hst,h.deaf0],fun i hi=>?_,fun i hi hs'=>?_,fun i hi hs'=>?_,fun i hi hin=>h.un i (by omega) hin,h.pay,fun i hi hin=>h.un2 i (by omega) hin,h.uR,(by
  have e:gms (j + 1) (upd D j x') = gms j D:=funext fun i=>by
   unfold gms
   by_cases e:i = j
   ·subst e; rw [if_pos (Nat.lt_succ_self _),if_neg (Nat.lt_irrefl _),upd_same]; exact hgm
   ·rw [upd_ne D _ e]
    by_cases h1:i < j
    ·rw [if_pos h1,if_pos (by omega)]
    ·rw [if_neg h1,if_neg (by omega)]
  rw [e]; exact h.word),h.owR,fun b=>by have:=h.owj b; omega,h.owf,fun i hi=>?_,Nat.le_refl _,h.ap,h.c2,h.ltC,h.ltW,h.kept⟩
 ·rw [Array.getElem?_push_lt (by simp [h.size]; omega),← Array.getElem?_eq_getElem,Array.getElem?_setIfInBounds_ne (by omega)] at hi;rw [Deaf_still t i _ hst];exact h.old i g0 h0 hb hi
 ·rcases Nat.lt_or_ge i j with hlt | hge
  ·obtain ⟨g,hg,hsg⟩:=h.wk i hlt;refine ⟨g,?_,by rw [upd_ne D _ (by omega)]; exact hsg⟩;rw [Array.getElem?_push_lt (by simp [h.size]; omega),← Array.getElem?_eq_getElem,Array.getElem?_setIfInBounds_ne (by omega)];exact hg
  ·obtain rfl:i = j:=by omega
   refine ⟨child,?_,by rw [upd_same]; exact hc⟩;rw [show base + i = (gs.setIfInBounds 0 a').size by simp [h.size],Array.getElem?_push_size]
 ·refine h.ct.fork hx hy h.deaf0 (fun l=>.rfl) (fun i hi l hl=>hl) (fun i hi l hl=>?_) (fun l hl=>?_) (fun l hl=>?_) (fun l hl=>?_) (fun l hl=>hl) (fun _ hl=>hl)
  ·obtain ⟨b,h1,h2,h3,h4,h5,h6⟩:=hl;refine ⟨b,h1,h2,h3,h4,?_,h6⟩
   simpa only [upd_ne D _ (show i ≠ j by omega)] using h5
  ·rcases hl with ⟨b,h1,h2,h2',h3,h4⟩ | ⟨b,hb,hl⟩
   ·have:=h.owj b; omega
   ·exact .inr ⟨b,j,hb,Nat.le_refl _,hl⟩
  ·obtain ⟨b,h1,h2,h3,h4,h5,h6,h7⟩:=hl;exact ⟨b,h1,h2,h3,h4,h6,h7⟩
  ·rcases hl with ⟨b,h1,h2,h2',h3,h4,h5,h6⟩ | ⟨b,i,hb,hi,hl⟩
   ·exact .inl ⟨b,h1,h2,h2',h3,h4,Nat.le_trans h.frs h5,h6⟩
   ·exact .inr ⟨b,i,hb,by omega,hl⟩
 ·rcases hm op hop with rfl | rfl
  ·rw [hx.2]; simp
  ·rw [hy.2]; simp
 ·rw [Deaf_still t _ _ hst]
  rcases Nat.lt_or_ge i j with hlt | hge
  ·rw [h.deafW i hlt,upd_ne D _ (by omega)]
  ·obtain rfl:i = j:=by omega
   rw [upd_same,hd];exact Deaf_absent fun a op ha e=>by have:=h.ct.gs a op ha; omega
 ·rcases Nat.lt_or_ge i j with hlt | hge
  ·rw [upd_ne D _ (by omega)] at hs';obtain ⟨r,hr⟩:=h.rel i hlt hs';exact ⟨r,hr.appNot fun op hop=>hnot _ (by omega) (by omega) op hop⟩
  ·obtain rfl:i = j:=by omega
   rw [upd_same] at hs';omega
 ·rcases Nat.lt_or_ge i j with hlt | hge
  ·rw [upd_ne D _ (by omega)] at hs';exact h.has i hlt hs'
  ·obtain rfl:i = j:=by omega
   rw [upd_same] at hs';omega
 ·rcases Nat.lt_or_ge i j with hlt | hge
  ·rw [upd_ne D _ (by omega)];exact Nat.le_trans (h.sfr i hlt) h.frs
  ·obtain rfl:i = j:=by omega
   rw [upd_same,hs]; exact Nat.le_refl _
end
end Go.Gx
namespace Go.Gx
open Go Go.Conc Go.ConcN
open Go.ConcR (KK wgBlock WgAt stA smA rd wr mk Payload DC0 Bk g_of_ofEvents bk_of_mute ofEvent_loc_mark deafBehind_cons deafBehind_one)
def dq:List Nat→Bool→CTag
 | [0,r,s],_=>.sp r s
 | [1],_=>.kd
 | [2,_],_=>.anch
 | [3,vs],_=>.w2 vs
 | [4],bl=>if bl then .blk else .w3
 | [5],_=>.w4
 | [6],_=>.ke
 | [7],_=>.acq
 | _,_=>.ret
def gy:List Nat→Nat
 | [0,_,s]=>if s = 3 ∨ s = 4 then 1 else 0
 | [2,_] | [3,_] | [4] | [5] | [6]=>1
 | _=>0
def WfL (n j:Nat) (l:List Nat):Prop:=(∃ r s,l = [0,r,s] ∧ j + r + 1 = n) ∨ (j = n ∧ (l = [1] ∨ (∃ b,l = [2,b]) ∨ (∃ vs,l = [3,vs]) ∨ l = [4] ∨ l = [5] ∨ l = [6] ∨ l = [7]))
theorem WfL.le {n j:Nat} {l:List Nat} (h:WfL n j l):j ≤ n:=by
 rcases h with ⟨r,s,_,h⟩ | ⟨h,_⟩ <;> omega
abbrev Mu1:=Tr × (Nat × Nat)
abbrev Mu:=Nat × (List Mu1 × (Nat × Nat))
def rM:Mu1→Mu1→Prop:=Prod.Lex Tr.Sub (Prod.Lex (· < ·) (· < ·))
def rMu:Mu→Mu→Prop:=Prod.Lex (· < ·) (Prod.Lex (uJ rM) (Prod.Lex (· < ·) (· < ·)))
theorem rM_wf:WellFounded rM:=(Prod.lex ⟨_,Tr.wf⟩ (Prod.lex Nat.lt_wfRel Nat.lt_wfRel)).wf
theorem rMu_wf:WellFounded rMu:=(Prod.lex Nat.lt_wfRel (Prod.lex ⟨_,less1_wf rM_wf⟩ (Prod.lex Nat.lt_wfRel Nat.lt_wfRel))).wf
def wm (x:WX):Mu1:=(x.tr,(x.wd.stage,x.wd.fuel))
def muL (tr:Tr) (D:Nat→WX) (j:Nat):List Mu1:=(tr,(0,0)) :: (List.range' 0 j).map (fun i=>wm (D i))
def wds (D:Nat→WX):Nat→WD:=fun i=>(D i).wd
theorem wx (D:Nat→WX) (k:Nat) (x:WX):wds (upd D k x) = upd (wds D) k x.wd:=funext fun i=>by
 unfold wds
 by_cases e:i = k
 ·subst e; rw [upd_same,upd_same]
 ·rw [upd_ne D _ e,upd_ne (fun i=>(D i).wd) _ e]
section
variable [Payload] [Duo] [Bad] (P:Program) (ty:TypeId) (Wg C n:Nat) (fv tv:Value) (Fin:Goroutine→World→Prop) (Shun:Loc→Prop) (base:Nat)
def qX (l:List Nat) (bl:Bool) (gs:Array Goroutine) (w:World) (ow:Nat→Nat) (tr:Tr) (rem fr:Nat):Prop :=
 ∃ gm v u,gs[0]? = some (if bl then { gm with status:=.blocked } else gm) ∧ gm.status = .running ∧ RunT (XB P ty Wg n) P true (pmM fr) fr (TM P ty Wg C n fv tv Fin rem fr) tr gm v ∧ bo v u ∧ eL Wg C Shun ow l w u ∧ (bl = true→l = [4] ∧ BlkB P ty Wg gm)
structure iv (gs:Array Goroutine) (w:World) (t:Trace) (j:Nat) (D:Nat→WX) (q ow:Nat→Nat) (fr:Nat) (l:List Nat) (bl:Bool) (tr:Tr) (rem:Nat) (st sm:Int):Prop where
 com:lB P ty Wg C n fv tv Shun base j gs w t D (gy l) q ow fr
 main:qX P ty Wg C n fv tv Fin Shun l bl gs w ow tr rem fr
 wf:WfL n j l
 wg:WgAt ty Wg w st sm
 mode:ConcN.Mode j (wds D) (dq l bl) st sm
 bound:∀ b,l = [2,b]→Vc j (wds D) ≤ b
 rR:∀ a,a.block = Wg→¬ Shun (.cell a)
def oh (μ:Mu) (m:Machine) (t:Trace):Prop :=
 ∃ gs w sl j D q ow fr l bl tr rem st sm,m = crowd gs w sl ∧ iv P ty Wg C n fv tv Fin Shun base gs w t j D q ow fr l bl tr rem st sm ∧ μ = (rem,(muL tr D j,(sumTo base q,if bl then 0 else 1)))
end
section
variable [Payload] [Duo] [Bad] {P:Program} {ty:TypeId} {Wg C n:Nat} {fv tv:Value} {Fin:Goroutine→World→Prop} {Shun:Loc→Prop} {base:Nat}
 {gs:Array Goroutine} {w w':World} {t:Trace} {j k:Nat} {D:Nat→WX} {q ow ow':Nat→Nat} {fr:Nat} {l:List Nat} {bl:Bool} {tr:Tr} {rem:Nat} {st sm st' sm':Int} {g g':Goroutine} {es:Array Event} {sl:Option (Nat × Nat)}
theorem qX.woken {gs':Array Goroutine} (h:qX P ty Wg C n fv tv Fin Shun l bl gs w ow tr rem fr) (hm:∀ u,eL Wg C Shun ow l w u→∃ u',bo u u' ∧ eL Wg C Shun ow' l w' u') (hg:∀ x,gs[0]? = some x→gs'[0]? = some (woken P g g' w' x)) :
 ∃ bl',qX P ty Wg C n fv tv Fin Shun l bl' gs' w' ow' tr rem fr ∧ (bl' = bl ∨ (bl = true ∧ bl' = false)) ∧ (mayWake P g = true→g'.status = .running→bl' = false):=by
 obtain ⟨gm,v,u,h0,h1,h2,h3,h4,h5⟩:=h;obtain ⟨u',g1,g2⟩:=hm u h4;cases bl with
 | false =>
   refine ⟨false,⟨gm,v,u',?_,h1,h2,h3.trans g1,g2,fun e=>by cases e⟩,.inl rfl,fun _ _=>rfl⟩;rw [hg _ h0];simp [woken_run h1]
 | true =>
   obtain ⟨e4,hb⟩:=h5 rfl;simp only [if_true] at h0
   by_cases hc:(mayWake P g && g'.status != .blocked && g'.status != .waiting) = true
   ·refine ⟨false,⟨gm,v,u',?_,h1,h2,h3.trans g1,g2,fun e=>by cases e⟩,.inr ⟨rfl,rfl⟩,fun _ _=>rfl⟩;rw [hg _ h0];simp [Go.Conc.woken,hc,Go.ConcR.again_blocked h1 hb.2.1]
   ·refine ⟨true,⟨gm,v,u',?_,h1,h2,h3.trans g1,g2,fun _=>⟨e4,hb⟩⟩,.inl rfl,fun a b=>absurd (by simp [a,b]) hc⟩;rw [hg _ h0];simp [Go.Conc.woken,hc]
theorem tag_re {bl':Bool} (h:bl' = bl ∨ (bl = true ∧ bl' = false)) (h4:bl = true→l = [4]):dq l bl' = dq l bl ∨ (dq l bl = .blk ∧ dq l bl' = .w3):=by
 rcases h with rfl | ⟨rfl,rfl⟩
 ·exact .inl rfl
 ·obtain rfl:=h4 rfl;exact .inr ⟨rfl,rfl⟩
theorem wv (S:iv P ty Wg C n fv tv Fin Shun base gs w t j D q ow fr l bl tr rem st sm) (hk:k < j) (hg:gs[base + k]? = some g) (hgo:stepG P false g w = .go g' w' es) {x':WX}
 (hcom:lB P ty Wg C n fv tv Shun base j ((gs.map (woken P g g' w')).setIfInBounds (base + k) g') w' (t ++ MemOp.ofEvents (base + k) g.frame.fn g.frame.place es) (upd D k x') (gy l) q ow' fr)
 (hm:∀ u,eL Wg C Shun ow l w u→∃ u',bo u u' ∧ eL Wg C Shun ow' l w' u') (hwg:WgAt ty Wg w' st' sm')
 (hmode:∀ bl',(bl' = bl ∨ (bl = true ∧ bl' = false))→(mayWake P g = true→g'.status = .running→bl' = false)→ConcN.Mode j (upd (wds D) k x'.wd) (dq l bl') st' sm')
 (hV:cnt x'.wd ≤ cnt (D k).wd) (hlt:rM (wm x') (wm (D k))) :
 ∃ m' ops μ',runT P (crowd gs w sl) (base + k) = (.next m',ops) ∧ rMu μ' (rem,(muL tr D j,(sumTo base q,if bl then 0 else 1))) ∧ oh P ty Wg C n fv tv Fin Shun base μ' m' (t ++ ops):=by
 have hp:=S.com.pos;have hne:(base + k == 0) = false:=by simp; omega
 have hrun:=runT_crowd_go (P:=P) (sl:=sl) (i:=base + k) hg (by rw [hne]; exact hgo);obtain ⟨bl',hM,hbl,hwk⟩:=S.main.woken (gs':=(gs.map (woken P g g' w')).setIfInBounds (base + k) g') (g:=g) (g':=g') hm (fun x hx=>by rw [get_map_set _ _ _ _ (by omega),hx]; rfl);refine ⟨_,_,(rem,(muL tr (upd D k x') j,(sumTo base q,if bl' then 0 else 1))),hrun,?_,_,w',sl,j,upd D k x',q,ow',fr,l,bl',tr,rem,st',sm',rfl,⟨hcom,hM,S.wf,hwg,?_,fun b hb=>?_,S.rR⟩,rfl⟩
 ·refine Prod.Lex.right _ (Prod.Lex.left _ _ (.tail ?_));exact less1_at (f:=fun i=>wm (D i)) (f':=fun i=>wm (upd D k x' i)) (i:=k) (Nat.zero_le _) (by omega) (by simp only [upd_same]; exact hlt) (fun i hi=>by simp only [upd_ne D _ hi])
 ·rw [wx]; exact hmode bl' hbl hwk
 ·have h1:=S.bound b hb;have h2:=Vc_upd (wds D) x'.wd hk;rw [wx];have:cnt (wds D k) = cnt (D k).wd:=rfl;omega
theorem gms_upd {x':WX} (hk:k < j):gms j (upd D k x') = upd (gms j D) k x'.gm:=funext fun i=>by
 unfold gms
 by_cases e:i = k
 ·subst e; rw [if_pos hk,upd_same,upd_same]
 ·rw [upd_ne D _ e,upd_ne _ _ e]
theorem gms_same {x':WX} (hk:k < j) (h:x'.gm = (D k).gm):gms j (upd D k x') = gms j D:=by
 rw [gms_upd hk]
 funext i
 by_cases e:i = k
 ·subst e; rw [upd_same,h]; unfold gms; rw [if_pos hk]
 ·rw [upd_ne _ _ e]
theorem okW_evs {pm:Nat→Prop} {s:Nat} {γ:List Nat} {u:World} {e:Event} {s':Nat→Nat} (h:EvS pm s u e) (hpm:pm = pmW C s) (V:VW Wg C Shun ow' k s γ w' u) (A:Apart Wg C) (hs:s' k = s) (hsz:u.heap.size = w'.heap.size) :
 ∀ fn pos,(pls Wg C Shun j fr ow' s').OkW base k { g:=base + k,fn,pos,act:=.ofEvent e }:=fun fn pos=>⟨rfl,fun x hx=>by
 rcases h with ⟨a,h1,h2,h3,h4⟩ | ⟨r,h1,h2,h3,h4,h5⟩ | ⟨m,hm,rfl⟩
 ·obtain ⟨loc,wr,sy⟩:=e;simp only at h1 h3 h4;subst h1;simp only [ofEvent_cell0,MemAct.touch?,Option.some.injEq] at hx;subst hx;have hks:(if sy = true then Touch.Kind.atomic else Touch.Kind.plain) ≠ Touch.Kind.said:=by cases sy <;> simp
  rcases h4 with ⟨hv,hw⟩ | ⟨hsp,⟨z,hz⟩,hw⟩ | ⟨hsp,hw,o,z,hz,hr⟩
  ·have hC:¬ Row C a.block:=fun e=>V.notC e hv
   have hW:a.block ≠ Wg:=fun e=>V.notW (e ▸ hv)
   have hR:a.block ≠ Duo.R:=fun e=>V.notR (e ▸ hv)
   rcases V.vis a.block (by omega) hv with ⟨g1,g2⟩ | ⟨g1,g2⟩
   ·refine .inr (.inr (.inl ⟨⟨a.block,rfl,hC,hW,g2,by rw [hs]; exact g1,fun hS=>(V.hid _ hS).pI hv,fun e=>hR (by cases e; rfl)⟩,?_,hks⟩));cases wr with
    | false=>rfl
    | true=>have:=(hw rfl).2; omega
   ·exact .inr (.inl ⟨.inl ⟨a.block,rfl,hC,hR,hW,g2⟩,hks⟩)
  ·obtain ⟨g1,g2⟩:=V.sl _ _ _ hz;refine .inr (.inl ⟨.inr ⟨a.block,g1,?_⟩,hks⟩);obtain ⟨ab,ao,asp⟩:=a;simp only at g2 hsp;subst g2 hsp
   rfl
  ·have hb:=V.ro _ _ _ _ hz hr;have hsy:sy = false:=h3.resolve_right fun h6=>V.notR (hb ▸ h6)
   subst hsy;subst hw;have hlt:a.off < Duo.c0.length:=by
    have h7:u.heap[Duo.R]? = _:=V.gh;rw [hb,h7] at hz;rw [← Option.some.inj hz] at hr;exact (jM.1 hr).1
   refine .inr (.inr (.inl ⟨⟨a.block,rfl,by rw [hb]; exact A.cr,by rw [hb]; exact A.rw,by rw [hb]; exact V.own0.1,by rw [hs,hb]; exact V.own0.2,fun hS=>(V.hid _ hS).not_ro hz hr,fun e=>?_⟩,rfl,by simp⟩));have e1:a = wdA:=by cases e; rfl
   rw [e1] at hlt;exact Nat.lt_irrefl _ hlt
 ·obtain ⟨loc,wr,sy⟩:=e;simp only at h1 h4 h5;subst h1 h4;have hC:¬ Row C r:=fun e=>V.notC e h3
  have hW:r ≠ Wg:=fun e=>V.notW (e ▸ h3)
  have hR:r ≠ Duo.R:=fun e=>V.notR (e ▸ h3)
  have hxl:x.loc = .obj r ∧ x.kind = .plain ∧ x.write = wr:=by cases wr <;> simp [MemAct.ofEvent,MemAct.touch?] at hx <;> (subst hx; exact ⟨rfl,rfl,rfl⟩)
  obtain ⟨e1,e2,e3⟩:=hxl;rw [e1,e2,e3]
  rcases V.vis r (by omega) h3 with ⟨g1,g2⟩ | ⟨g1,g2⟩
  ·refine .inr (.inr (.inl ⟨⟨r,rfl,hC,hW,g2,by rw [hs]; exact g1,(fun hS=>by obtain ⟨a,o,h,_⟩:=V.hid _ hS; cases h),(fun e=>by cases e)⟩,?_,by simp⟩));cases wr with
   | false=>rfl
   | true=>have:=(h5 rfl).2; omega
  ·exact .inr (.inl ⟨.inl ⟨r,rfl,hC,hR,hW,g2⟩,by simp⟩)
 ·rcases hm with rfl | ⟨f,rfl⟩ <;> simp [MemAct.ofEvent,MemAct.touch?] at hx⟩
theorem EvS.still {pm:Nat→Prop} {s:Nat} {u:World} {e:Event} (h:EvS pm s u e):e.loc ≠ .mark .disable ∧ e.loc ≠ .mark .enable:=by
 rcases h with ⟨a,h1,_⟩ | ⟨r,h1,_⟩ | ⟨m,hm,rfl⟩
 ·rw [h1]; simp
 ·rw [h1]; simp
 ·rcases hm with rfl | ⟨f,rfl⟩ <;> simp
theorem EvS.low {pm:Nat→Prop} {s:Nat} {u:World} {e:Event} (h:EvS pm s u e):(MemAct.ofEvent e).low u.heap.size:=(oX (Shun:=fun _=>False) h (fun l hl=>hl.elim)).2.2.2
theorem VW.setR {i a:Nat} {γ γ':List Nat} {u:World} (h:VW Wg C Shun ow i a γ w u) (A:Apart Wg C):VW Wg C Shun ow i a γ' w (dw u Duo.R (roB γ')):=by
 have hR:Duo.R < u.heap.size:=aw h.gh;have ge:∀ b,b ≠ Duo.R→(Gx.dw u Duo.R (roB γ')).heap[b]? = u.heap[b]?:=fun b hb=>dJ (Ne.symm hb)
 have same:(Gx.dw u Duo.R (roB γ')).heap[Duo.R]? = some (roB γ'):=cR hR;have vi:∀ b,Vis (Gx.dw u Duo.R (roB γ')) b→b ≠ Duo.R ∧ Vis u b:=fun b hv=>by
  have hb:b ≠ Duo.R:=fun e=>by
   subst e;have:=hv _ same;rw [gM (oA γ')] at this; cases this
  exact ⟨hb,fun o ho=>hv o (by rw [ge b hb]; exact ho)⟩
 have sl:∀ (b k:Nat) z,(Gx.dw u Duo.R (roB γ')).heap[b]? = some (slot k z)→u.heap[b]? = some (slot k z):=fun b k z hz=>by
  by_cases e:b = Duo.R
  ·subst e;rw [same] at hz;have:=oA γ';rw [Option.some.inj hz] at this;simp [isH,slot] at this
  ·rwa [ge b e] at hz
 have ro:∀ (b k:Nat) o z,(Gx.dw u Duo.R (roB γ')).heap[b]? = some o→Ro o k z→b = Duo.R ∧ Ro (roB γ) k z:=fun b k o z ho hr=>by
  by_cases e:b = Duo.R
  ·subst e;rw [same] at ho;rw [← Option.some.inj ho] at hr;exact ⟨rfl,jM.2 (jM.1 hr)⟩
  ·rw [ge b e] at ho;exact absurd (h.ro b k o z ho hr) e
 refine ⟨j1 h.nv rfl,⟨by rw [di]; exact h.msk.size,h.msk.tape,h.msk.drawn,h.msk.os,h.msk.output,fun b hv=>?_,fun b k z hz=>h.msk.slot b k z (sl b k z hz),fun b k o z ho hr=>?_⟩,fun b hb=>?_,?_,fun b hb hv=>h.vis b hb (vi b hv).2,fun b k z hz=>h.sl b k z (sl b k z hz),fun l hl=>?_,same,fun b k o z ho hr=>(ro b k o z ho hr).1,h.own0⟩
 ·obtain ⟨hb,hv'⟩:=vi b hv;rw [ge b hb];exact h.msk.vis b hv'
 ·obtain ⟨rfl,hr'⟩:=ro b k o z ho hr;exact h.msk.ro _ k _ z h.gh hr'
 ·obtain ⟨z,hz⟩:=h.cell b hb;exact ⟨z,by rw [ge b fun e=>A.cr (e ▸ hb)]; exact hz⟩
 ·obtain ⟨o,ho,hh⟩:=h.xi;exact ⟨o,by rw [ge Wg (Ne.symm A.rw)]; exact ho,hh⟩
 ·obtain ⟨c,o,h1,h2,h3,h4⟩:=h.hid l hl;subst h1
  by_cases e:c.block = Duo.R
  ·refine ⟨c,roB γ',rfl,by rw [e]; exact same,oA γ',fun x hr=>?_⟩;have h7:u.heap[Duo.R]? = _:=h.gh;rw [e,h7] at h2;rw [← Option.some.inj h2] at h4;exact h4 x (jM.2 (jM.1 hr))
  ·exact ⟨c,o,rfl,by rw [ge c.block e]; exact h2,h3,h4⟩
theorem vb {d:Array Value} {e:TypeId} (h:w.heap[Duo.R]? = some (.cells d e (0,0))):w.cell? wdA = d[Duo.c0.length]?:=by
 simp [World.cell?,wdA,h]
theorem AtE.still {e:Event} (h:AtE e):e.loc ≠ .mark .disable ∧ e.loc ≠ .mark .enable:=by
 rcases h with ⟨wr,rfl⟩ | ⟨f,rfl⟩ <;> simp
theorem stepRun {u:World} (S:iv P ty Wg C n fv tv Fin Shun base gs w t j D q ow fr l bl tr rem st sm) (hk:k < j) (hg:gs[base + k]? = some g) (hr:(D k).run = true) (R:RunW P ty Wg C n tv Shun ow k (D k) g w u) :
 ∃ m' ops μ',runT P (crowd gs w sl) (base + k) = (.next m',ops) ∧ rMu μ' (rem,(muL tr D j,(sumTo base q,if bl then 0 else 1))) ∧ oh P ty Wg C n fv tv Fin Shun base μ' m' (t ++ ops):=by
 have h:=S.com;obtain ⟨v,hT,hgr⟩:=R.run
 rcases hT.cases with ⟨e,_⟩ | ⟨_,_,b1,hb1,hst⟩
 ·exact absurd e R.nl
 obtain ⟨σ0,hd1,hJ⟩:=h.word;have hgk:gms j D k = (D k).gm:=by unfold gms; rw [if_pos hk]
 have hwd:(D k).wd = ⟨7,0,0⟩:=R.wd;have h4:bl = true→l = [4]:=fun e=>by obtain ⟨_,_,_,_,_,_,_,_,h5⟩:=S.main; exact (h5 e).1
 have hmd:∀ x':WX,x'.wd.stage = 7→∀ bl',(bl' = bl ∨ (bl = true ∧ bl' = false))→ConcN.Mode j (upd (wds D) k x'.wd) (dq l bl') st sm:=fun x' hx2 bl' hbl=>by
  refine ConcN.Mode.retag ?_ (tag_re hbl h4);refine S.mode.congr fun a ha=>?_
  by_cases e:a = k
  ·subst e; rw [upd_same,hx2]; show 7 = (D a).wd.stage; rw [hwd]
  ·rw [upd_ne (wds D) _ e]
 rcases hst u w ⟨hgr,R.nv,R.msk,gms j D,σ0,by rw [hgk]; exact R.gh,(vb hd1).trans c0_at,hJ⟩ (fun _=>trivial) with ⟨g',v',tr',hsub,⟨w',es,hgo,htn,hbs,hev⟩,hT'⟩ | ⟨g',γ,γ',σ,σ',w',es,hgh,hgo,hrn,hes,hcell,hTr,hw',tr',hsub,hT'⟩
 ·have hsz:w.heap.size ≤ w'.heap.size:=by rw [R.msk.size,hbs.msk.size]; exact htn.size
  have hsf:(D k).s ≤ w.heap.size:=Nat.le_trans (h.sfr k hk) h.frs;have V':=R.toVW.own htn hbs hsf;have Lf:Left Wg C n (fun i=>i = k) w w':=left_work R.toVW hbs;have hwg:WgAt ty Wg w' st sm:=S.wg.of_block Lf.wg;obtain ⟨x',hx1,hx2,hx3,hx4,hx6,hx5⟩:=WOK.mk hT' (.refl v') V' ⟨_,_,hwg⟩;have how:∀ b,b < w.heap.size→owN ow w.heap.size w'.heap.size k b = ow b:=fun b hb=>by unfold owN; rw [if_neg (by omega)]
  refine wv (x':=x') (ow':=owN ow w.heap.size w'.heap.size k) (st':=st) (sm':=sm) S hk hg hgo ?_ (fun u0 M=>?_) hwg (fun bl' hbl hwk=>hmd x' hx2 bl' hbl) ?_ ?_
  ·refine h.stepW hk hg hsz how (fun b hb=>?_) (fun i hi hne g0 hw0=>?_) hx5 hx1 (fun e he=>?_) (fun e he=>by rw [hbs.msk.size]; exact (hev e he).low) (fun e he a=>o8 (hev e he) a) ?_ (fun h7=>by omega) (fun i hi h6=>?_) (fun i hi hin=>?_) (Lf.pay h.pay) (mS R.hid hbs)
    (fun i hi hin=>(Lf.row _ (.inr rfl) i (by omega) h.uR.ex).trans (h.un2 i hi hin)) (let ⟨cs,h8,h9⟩:=h.uR; let ⟨cs',g8,g9⟩:=Lf.rows _ (.inr rfl) cs _ h8; ⟨cs',g8,g9.trans h9⟩) ⟨σ0,Lf.word.trans hd1,by rw [gms_same hk hx6]; exact hJ⟩ (.inr ⟨by rw [hwd],fun e he=>(hev e he).still⟩)
   ·unfold owN
    by_cases hlt:b < w'.heap.size
    ·rw [if_pos ⟨hb,hlt⟩]; exact .inr ⟨rfl,hlt⟩
    ·rw [if_neg (by omega)]; exact .inl (h.owf b hb)
   ·refine hw0.other (fun u1 R1=>⟨_,dN u1 w',R1.other htn hbs R.msk how (sep_work R1 R.toVW hne) (fun b hb=>.inr ?_) R.toVW.hidR⟩) Lf h.pay hne;obtain ⟨z,hz⟩:=R.cell b hb;exact ⟨k,z,hz,fun e=>hne e.symm⟩
   ·exact okW_evs (hev e he) rfl V' h.ap rfl hbs.msk.size.symm _ _
   ·rw [hwd,hx3];exact deafBehind_idle (fun e he=>(hev e he).still) 0
   ·by_cases e:i = k
    ·subst e; rw [upd_same] at h6; omega
    ·rw [upd_ne D _ e] at h6;exact (Lf.cell i e h.pay).trans (h.has i hi h6)
   ·exact (Lf.cell i (by omega) h.pay).trans (h.un i hi hin)
  ·exact ⟨_,dN u0 w',M.other htn hbs R.msk how (sep_of_work M R.toVW)⟩
  ·simp only [cnt,hx2,hwd]; decide
  ·show Prod.Lex _ _ (x'.tr,_) ((D k).tr,_);rw [hx4];exact Prod.Lex.left _ _ hsub
 ·obtain rfl:(D k).gm = γ:=xm R.gh hgh;have hst':dU Wg w w':=by
   rcases hw' with ⟨rfl,_⟩ | rfl
   ·exact .refl _
   ·exact .of_word
  have hWg:w'.heap[Wg]? = w.heap[Wg]?:=by
   rcases hw' with ⟨rfl,_⟩ | rfl
   ·rfl
   ·show (w.heap.modify Duo.R _)[Wg]? = _;rw [cL,if_neg h.ap.rw]
  have hwg:WgAt ty Wg w' st sm:=S.wg.of_block hWg;have V':VW Wg C Shun ow k (D k).s γ' w' (dw (u.at w'.drawn) Duo.R (roB γ')):=(R.toVW.lib hst' h.ap).setR h.ap;have hRu:Duo.R < u.heap.size:=aw R.gh;obtain ⟨x',hx1,hx2,hx3,hx4,hx6,hx5⟩:=WOK.mk hT' (qv (bo.at u w'.drawn) hRu) V' ⟨_,_,hwg⟩;have sc:∀ {b:Nat},Row C b→∀ i,w'.cell? ⟨b,i,none⟩ = w.cell? ⟨b,i,none⟩:=fun hb i=>hst'.cell h.ap hb i
  have hσ:σ = σ0:=by
   rw [vb hd1,c0_at] at hcell;have:=(Value.int.inj (Option.some.inj hcell)).2;omega
  subst hσ;have hword:uC w' (gms j (upd D k x')):=by
   rw [gms_upd hk,hx6];have hk':=Duo.cn hJ (by rw [hgk]; exact hTr)
   rcases hw' with ⟨rfl,rfl⟩ | rfl
   ·exact ⟨_,hd1,hk'⟩
   ·refine ⟨σ',?_,hk'⟩;show (w.heap.modify Duo.R _)[Duo.R]? = _;rw [cL,if_pos rfl,hd1];simp [wdA]
  refine wv (x':=x') (ow':=ow) (st':=st) (sm':=sm) S hk hg hgo ?_ (fun u0 M=>⟨_,bo.at u0 _,M.lib hst'⟩) hwg (fun bl' hbl hwk=>hmd x' hx2 bl' hbl) ?_ ?_
  ·refine h.stepW hk hg (Nat.le_of_eq hst'.size.symm) (fun _ _=>rfl) (fun b hb=>.inl (h.owf b hb)) (fun i hi hne g0 hw0=>hw0.lib hst' h.ap ⟨_,_,hwg⟩) hx5 hx1 (fun e he=>⟨rfl,fun x hx=>?_⟩) (fun e he=>?_) (fun e he a=>?_) ?_ (fun h7=>by omega) (fun i hi h6=>?_) (fun i hi hin=>(sc (.inl rfl) i).trans (h.un i hi hin)) (hst'.pay h.ap h.pay)
    (fun b hb=>?_) (fun i hi hin=>(sc (.inr rfl) i).trans (h.un2 i hi hin)) (let ⟨cs,h9,h10⟩:=h.uR; ⟨cs,(hst'.row h.ap (.inr rfl)).trans h9,h10⟩) hword (.inr ⟨by rw [hwd],fun e he=>(hes e he).still⟩)
   ·rcases hes e he with ⟨wr,rfl⟩ | ⟨f,rfl⟩
    ·simp only [ofEvent_cell0,MemAct.touch?,Option.some.injEq] at hx;subst hx;exact .inr (.inr (.inr ⟨rfl,rfl⟩))
    ·simp [MemAct.ofEvent,MemAct.touch?] at hx
   ·rcases hes e he with ⟨wr,rfl⟩ | ⟨f,rfl⟩
    ·rw [ofEvent_cell0];show Duo.R < _;rw [hst'.size];exact h.ltC _ (.inr rfl)
    ·trivial
   ·rcases hes e he with ⟨wr,rfl⟩ | ⟨f,rfl⟩
    ·rw [ofEvent_cell0]; simp
    ·simp [MemAct.ofEvent]
   ·rw [hwd,hx3];exact deafBehind_idle (fun e he=>(hes e he).still) 0
   ·by_cases e:i = k
    ·subst e; rw [upd_same] at h6; omega
    ·rw [upd_ne D _ e] at h6;exact (sc (.inl rfl) i).trans (h.has i hi h6)
   ·refine hst'.block b (fun e=>S.rR _ e hb) fun e=>?_
    subst e;have h0:0 < Duo.c0.length:=by have:=Duo.two; omega
    exact (R.hid _ hb).not_ro R.gh (jM.2 ⟨h0,List.getElem?_eq_getElem h0⟩)
  ·simp only [cnt,hx2,hwd]; decide
  ·show Prod.Lex _ _ (x'.tr,_) ((D k).tr,_);rw [hx4];exact Prod.Lex.left _ _ hsub
end
end Go.Gx
namespace Go.Gx
open Go Go.Conc Go.ConcN
open Go.ConcR (KK wgBlock WgAt stA smA rd wr mk Payload DC0 Bk g_of_ofEvents bk_of_mute ofEvent_loc_mark deafBehind_cons deafBehind_one)
section
variable [Payload] [Duo] [Bad] {P:Program} {ty:TypeId} {Wg C n:Nat} {fv tv:Value} {Fin:Goroutine→World→Prop} {Shun:Loc→Prop} {base:Nat}
 {gs:Array Goroutine} {w w':World} {t:Trace} {j k:Nat} {D:Nat→WX} {q ow ow':Nat→Nat} {fr:Nat} {l:List Nat} {bl:Bool} {tr:Tr} {rem:Nat} {st sm st' sm':Int} {g g':Goroutine} {es:Array Event} {sl:Option (Nat × Nat)}
theorem iv.blk4 (S:iv P ty Wg C n fv tv Fin Shun base gs w t j D q ow fr l bl tr rem st sm):bl = true→l = [4]:=fun e=>by obtain ⟨_,_,_,_,_,_,_,_,h5⟩:=S.main; exact (h5 e).1
def BkR (Wg:Nat) (e:Event):Prop:=Bk Wg e ∨ e = mk (.releaseMerge (stA Wg))
theorem BkR.touch {e:Event} (h:BkR Wg e) {x:Touch} (hx:(MemAct.ofEvent e).touch? = some x):ShN Wg x.loc ∧ x.kind ≠ .plain ∧ x.kind ≠ .said:=by
 rcases h with (h1 | h1 | ⟨a,wr,rfl,ha⟩) | rfl
 ·rw [ofEvent_loc_mark h1] at hx; cases hx
 ·rw [ofEvent_loc_mark h1] at hx; cases hx
 ·simp only [Go.ConcR.ofEvent_cell,MemAct.touch?,Option.some.injEq] at hx;subst hx;exact ⟨⟨a,rfl,ha⟩,by simp,by simp⟩
 ·rw [Go.ConcR.ofEvent_mk] at hx; cases hx
theorem BkR.low {e:Event} (h:BkR Wg e) {B:Nat} (hB:Wg < B):(MemAct.ofEvent e).low B:=by
 rcases h with (h1 | h1 | ⟨a,wr,rfl,ha⟩) | rfl
 ·rw [ofEvent_loc_mark h1]; trivial
 ·rw [ofEvent_loc_mark h1]; trivial
 ·rw [Go.ConcR.ofEvent_cell]; show a.block < B; rw [ha]; exact hB
 ·rw [Go.ConcR.ofEvent_mk]; exact hB
theorem BkR.norel {e:Event} (h:BkR Wg e) (a:Addr):MemAct.ofEvent e ≠ .mark (.release a):=by
 rcases h with (h1 | h1 | ⟨a,wr,rfl,ha⟩) | rfl
 ·rw [ofEvent_loc_mark h1]; simp
 ·rw [ofEvent_loc_mark h1]; simp
 ·rw [Go.ConcR.ofEvent_cell]; simp
 ·rw [Go.ConcR.ofEvent_mk]; simp
theorem libB (S:iv P ty Wg C n fv tv Fin Shun base gs w t j D q ow fr l bl tr rem st sm) (hk:k < j) (hg:gs[base + k]? = some g) (hr:(D k).run = false) (htr:(D k).tr = .leaf) (hVw:∃ u,VW Wg C Shun ow k (D k).s (D k).gm w u ∧ Duo.mF k u) {wd':WD} (hgo:stepG P false g w = .go g' w' es)
 (hA:Conc.Aside Wg w w') (hwg:WgAt ty Wg w' st' sm') (hbk:∀ e ∈ es,BkR Wg e) (hL:xI P ty Wg C n tv k wd' g' w') (hdeaf:deafBehind (D k).wd.deaf es = wd'.deaf)
 (hrel:wd'.stage ≤ 6→∃ r,RelBy (stA Wg) (t ++ MemOp.ofEvents (base + k) g.frame.fn g.frame.place es) (base + k) r) (hhas:wd'.stage ≤ 6→Has C k tv w)
 (hmode:∀ bl',(bl' = bl ∨ (bl = true ∧ bl' = false))→(mayWake P g = true→g'.status = .running→bl' = false)→ConcN.Mode j (upd (wds D) k wd') (dq l bl') st' sm')
 (hV:cnt wd' ≤ cnt (D k).wd) (hlt:wd'.stage < (D k).wd.stage ∨ (wd'.stage = (D k).wd.stage ∧ wd'.fuel < (D k).wd.fuel)) :
 ∃ m' ops μ',runT P (crowd gs w sl) (base + k) = (.next m',ops) ∧ rMu μ' (rem,(muL tr D j,(sumTo base q,if bl then 0 else 1))) ∧ oh P ty Wg C n fv tv Fin Shun base μ' m' (t ++ ops):=by
 have h:=S.com;have s:dU Wg w w':=.of_wg hA h.ap.rw;have sc:∀ {b:Nat},Row C b→∀ i,w'.cell? ⟨b,i,none⟩ = w.cell? ⟨b,i,none⟩:=fun hb i=>s.cell h.ap hb i
 obtain ⟨uV,hV1,hV2⟩:=hVw;refine wv (x':=⟨.leaf,false,wd',(D k).s,(D k).gm⟩) (ow':=ow) (st':=st') (sm':=sm') S hk hg hgo ?_ (fun u0 M=>⟨_,bo.at u0 _,M.lib s⟩) hwg hmode hV ?_
 ·refine h.stepW hk hg (Nat.le_of_eq hA.size.symm) (fun _ _=>rfl) (fun b hb=>.inl (h.owf b hb)) (fun i hi hne g0 hw0=>hw0.lib s h.ap ⟨_,_,hwg⟩) (.inr ⟨rfl,rfl,hL,_,hV1.lib s h.ap,Duo.post hV2 (bo.at uV _)⟩) rfl
   (fun e he=>⟨rfl,fun x hx=>.inl ((hbk e he).touch hx)⟩) (fun e he=>(hbk e he).low (by rw [hA.size]; exact h.ltW)) (fun e he a=>(hbk e he).norel a) hdeaf hrel (fun i hi h6=>?_) (fun i hi hin=>(sc (.inl rfl) i).trans (h.un i hi hin)) (s.pay h.ap h.pay) (fun b hb=>hA.block b fun e=>S.rR _ e hb)
   (fun i hi hin=>(sc (.inr rfl) i).trans (h.un2 i hi hin)) (let ⟨cs,h9,h10⟩:=h.uR; ⟨cs,(s.row h.ap (.inr rfl)).trans h9,h10⟩) (let ⟨σ,h3,h4⟩:=h.word; ⟨σ,(hA.block _ h.ap.rw).trans h3,by rw [gms_same (D:=D) (x':=⟨.leaf,false,wd',(D k).s,(D k).gm⟩) hk rfl]; exact h4⟩) (.inl fun e he x hx _=>((hbk e he).touch hx).1)
  refine (sc (.inl rfl) i).trans ?_
  by_cases e:i = k
  ·subst e; rw [upd_same] at h6; exact hhas h6
  ·rw [upd_ne D _ e] at h6; exact h.has i hi h6
 ·show Prod.Lex _ _ (Tr.leaf,_) ((D k).tr,_);rw [htr];refine Prod.Lex.right _ ?_
  rcases hlt with h1 | ⟨h1,h2⟩
  ·exact Prod.Lex.left _ _ h1
  ·show Prod.Lex _ _ (wd'.stage,_) _;rw [h1];exact Prod.Lex.right _ h2
theorem stepLib (S:iv P ty Wg C n fv tv Fin Shun base gs w t j D q ow fr l bl tr rem st sm) (hn:n < 2147483648) (hk:k < j) (hg:gs[base + k]? = some g) (hr:(D k).run = false) (htr:(D k).tr = .leaf) (hL:xI P ty Wg C n tv k (D k).wd g w) (hVw:∃ u,VW Wg C Shun ow k (D k).s (D k).gm w u ∧ Duo.mF k u) (hrun:g.status = .running) :
 ∃ m' ops μ',runT P (crowd gs w sl) (base + k) = (.next m',ops) ∧ rMu μ' (rem,(muL tr D j,(sumTo base q,if bl then 0 else 1))) ∧ oh P ty Wg C n fv tv Fin Shun base μ' m' (t ++ ops):=by
 have h:=S.com;have hwg:=S.wg;have hmode:=S.mode;have hdk:Deaf t (base + k) = (D k).wd.deaf:=h.deafW k hk;have hVj:Vc j (wds D) ≤ j:=Vc_le j (wds D);have hjn:=S.wf.le;have hpend:∀ tag,tag = dq l bl→j + pend tag ≤ n:=fun tag e=>by
  subst e
  rcases S.wf with ⟨r,s,rfl,h⟩ | ⟨h,h1⟩
  ·simp only [dq,pend]; split <;> omega
  ·rcases h1 with rfl | ⟨b,rfl⟩ | ⟨b,rfl⟩ | rfl | rfl | rfl | rfl <;> (simp only [dq,pend]; try omega)
   cases bl <;> simp [pend] <;> omega
 have re:∀ {wd':WD} {st' sm':Int},ConcN.Mode j (upd (wds D) k wd') (dq l bl) st' sm'→∀ bl',(bl' = bl ∨ (bl = true ∧ bl' = false))→(mayWake P g = true→True→True)→ConcN.Mode j (upd (wds D) k wd') (dq l bl') st' sm':=fun hm bl' hbl _=>hm.retag (tag_re hbl S.blk4)
 have hwd:wds D k = (D k).wd:=rfl;have idle:∀ {g':Goroutine} {m':Nat},stepG P false g w = .go g' w #[]→xI P ty Wg C n tv k ⟨(D k).wd.stage,m',(D k).wd.deaf⟩ g' w→m' < (D k).wd.fuel→((D k).wd.stage ≤ 6→∃ r,RelBy (stA Wg) t (base + k) r) →
  ∃ m' ops μ',runT P (crowd gs w sl) (base + k) = (.next m',ops) ∧ rMu μ' (rem,(muL tr D j,(sumTo base q,if bl then 0 else 1))) ∧ oh P ty Wg C n fv tv Fin Shun base μ' m' (t ++ ops):=fun {g' m'} hgo hL' hm hrl =>
  libB S hk hg hr htr hVw hgo (.refl Wg w) hwg (by simp) hL' rfl (fun h6=>let ⟨r,hr⟩:=hrl h6; ⟨r,hr.book (Wg:=Wg) hdk _ _ (es:=#[]) (by simp) (by simp)⟩) (fun h6=>h.has k hk h6)
   (fun bl' hbl _=>re (hmode.same m' (D k).wd.deaf) bl' hbl (fun _ _=>trivial)) (Nat.le_of_eq (by simp only [cnt])) (.inr ⟨rfl,hm⟩)
 rcases hL with ⟨h7,hd0,hG⟩ | ⟨h6,hW⟩
 ·rcases Goes.cases hG with hstop | ⟨m',hm',hstep⟩
  ·obtain ⟨_,hhas,g',hgo,m2,hk1⟩:=hstop w (RW.refl w);refine libB (wd':=⟨6,m2,0⟩) S hk hg hr htr hVw hgo (.refl Wg w) hwg (by intro e he; simp at he; subst he; exact .inr rfl) (.inr ⟨by simp,.k1 hk1⟩) (by rw [hd0]; rfl) (fun _=>⟨t.size,RelBy.new (by rw [hdk,hd0]) _ _⟩) (fun _=>by simpa using hhas)
    (fun bl' hbl _=>re (hmode.counted hk (by rw [hwd]; omega) (.inl rfl) _ _) bl' hbl (fun _ _=>trivial)) (by simp [cnt,h7]) (.inl (by simp only; omega))
  ·obtain ⟨g',w',es,hgo,⟨rfl,rfl⟩,hg'⟩:=hstep w (RW.refl w);exact idle (m':=m') hgo (.inl ⟨h7,hd0,hg'⟩) (by omega) (fun h6=>by omega)
 ·obtain ⟨r0,hr0⟩:=h.rel k hk h6;have idle':∀ {g':Goroutine} {m':Nat},stepG P false g w = .go g' w #[]→WSit P ty Wg C n O0 O0 0 (k + 1) tv (D k).wd.stage m' (D k).wd.deaf g' w→m' < (D k).wd.fuel →
   ∃ m' ops μ',runT P (crowd gs w sl) (base + k) = (.next m',ops) ∧ rMu μ' (rem,(muL tr D j,(sumTo base q,if bl then 0 else 1))) ∧ oh P ty Wg C n fv tv Fin Shun base μ' m' (t ++ ops):=fun {g' m'} hgo hs hm=>idle (m':=m') hgo (.inr ⟨h6,hs⟩) hm (fun _=>⟨r0,hr0⟩)
  have bookG:∀ {g':Goroutine} {w':World} {es:Array Event} {wd':WD} {st' sm':Int},stepG P false g w = .go g' w' es→Conc.Aside Wg w w'→WgAt ty Wg w' st' sm'→(∀ e ∈ es,Bk Wg e) →
   (∀ jx e,es[jx]? = some e→(MemAct.ofEvent e).touch? = none ∨ 0 < deafBehind (D k).wd.deaf (es.extract 0 jx))→WSit P ty Wg C n O0 O0 0 (k + 1) tv wd'.stage wd'.fuel wd'.deaf g' w'→wd'.stage ≤ 6→deafBehind (D k).wd.deaf es = wd'.deaf →
   (∀ bl',(bl' = bl ∨ (bl = true ∧ bl' = false))→(mayWake P g = true→g'.status = .running→bl' = false)→ConcN.Mode j (upd (wds D) k wd') (dq l bl') st' sm')→cnt wd' ≤ cnt (D k).wd→(wd'.stage < (D k).wd.stage ∨ (wd'.stage = (D k).wd.stage ∧ wd'.fuel < (D k).wd.fuel)) →
   ∃ m' ops μ',runT P (crowd gs w sl) (base + k) = (.next m',ops) ∧ rMu μ' (rem,(muL tr D j,(sumTo base q,if bl then 0 else 1))) ∧ oh P ty Wg C n fv tv Fin Shun base μ' m' (t ++ ops) :=
   fun hgo hA hwg' hbk hd hs h6' hdd hmd hV hlt=>libB S hk hg hr htr hVw hgo hA hwg' (fun e he=>.inl (hbk e he)) (.inr ⟨h6',hs⟩) hdd (fun _=>⟨r0,hr0.book hdk _ _ hbk hd⟩) (fun _=>h.has k hk h6) hmd hV hlt
  have book:∀ {g':Goroutine} {w':World} {es:Array Event} {wd':WD} {st' sm':Int},stepG P false g w = .go g' w' es→Conc.Aside Wg w w'→WgAt ty Wg w' st' sm'→(∀ e ∈ es,Bk Wg e) →
   (∀ jx e,es[jx]? = some e→(MemAct.ofEvent e).touch? = none ∨ 0 < deafBehind (D k).wd.deaf (es.extract 0 jx))→WSit P ty Wg C n O0 O0 0 (k + 1) tv wd'.stage wd'.fuel wd'.deaf g' w'→wd'.stage ≤ 6→deafBehind (D k).wd.deaf es = wd'.deaf →
   ConcN.Mode j (upd (wds D) k wd') (dq l bl) st' sm'→cnt wd' ≤ cnt (D k).wd→(wd'.stage < (D k).wd.stage ∨ (wd'.stage = (D k).wd.stage ∧ wd'.fuel < (D k).wd.fuel)) →
   ∃ m' ops μ',runT P (crowd gs w sl) (base + k) = (.next m',ops) ∧ rMu μ' (rem,(muL tr D j,(sumTo base q,if bl then 0 else 1))) ∧ oh P ty Wg C n fv tv Fin Shun base μ' m' (t ++ ops) :=
   fun hgo hA hwg' hbk hd hs h6' hdd hmd hV hlt=>bookG hgo hA hwg' hbk hd hs h6' hdd (fun bl' hbl _=>re hmd bl' hbl (fun _ _=>trivial)) hV hlt
  generalize hst:(D k).wd.stage = s at hW
  generalize hfu:(D k).wd.fuel = m at hW
  generalize hde:(D k).wd.deaf = dd at hW
  rw [hst,hde] at bookG book;rw [hfu] at bookG book idle';rw [hst,hde] at idle';have df2:∀ jx e,(#[rd (stA Wg),wr (stA Wg)]:Array Event)[jx]? = some e→(MemAct.ofEvent e).touch? = none ∨ 0 < deafBehind 1 ((#[rd (stA Wg),wr (stA Wg)]:Array Event).extract 0 jx):=by
   intro jx e he
   match jx,he with
   | 0,_=>exact .inr (by simp [deafBehind])
   | 1,_=>exact .inr (by simp [deafBehind,rd])
   | jx + 2,he=>simp at he
  have df1:∀ (x:Event),x.loc ≠ .mark .disable→∀ jx e,(#[x]:Array Event)[jx]? = some e→(MemAct.ofEvent e).touch? = none ∨ 0 < deafBehind 1 ((#[x]:Array Event).extract 0 jx):=by
   intro x _ jx e he
   match jx,he with
   | 0,_=>exact .inr (by simp [deafBehind])
   | jx + 1,he=>simp at he
  cases hW with
  | r0 _=>omega
  | k1 h1 =>
    rcases Goes.cases h1 with hstop | ⟨m',rfl,hstep⟩
    ·obtain ⟨_,g',hgo,m2,hk1⟩:=hstop w (RW.refl w);exact book (wd':=⟨5,m2,1⟩) hgo (.refl Wg w) hwg bk_dis (by intro jx e he; exact .inl (by have:=Array.mem_of_getElem? he; simp at this; subst this; rfl)) (.d1 hk1) (by simp) rfl
      (hmode.counted hk (by rw [hwd]; omega) (.inr rfl) _ _) (by simp [cnt,hst]) (.inl (by simp only; omega))
    ·obtain ⟨g',w',es,hgo,⟨rfl,rfl⟩,hg'⟩:=hstep w (RW.refl w);exact idle' hgo (.k1 hg') (by omega)
  | d1 h1 =>
    rcases Goes.cases h1 with hstop | ⟨m',rfl,hstep⟩
    ·obtain ⟨_,hall⟩:=hstop w (RW.refl w);have hc1:cnt (wds D k) = 1:=by simp [cnt,hwd,hst]
     have hc1':cnt (D k).wd = 1:=hc1;have hV1:1 ≤ Vc j (wds D):=by have:=le_sumTo (f:=fun x=>cnt (wds D x)) hk; simp only [Vc]; omega
     have hq0:∀ q,cnt (⟨1,q,1⟩:WD) = 0:=fun _=>rfl
     have opq:∀ q,OpenSt j (wds D)→OpenSt j (upd (wds D) k ⟨1,q,1⟩):=fun q h a ha=>by
      by_cases e:a = k
      ·subst e; rw [upd_same]; simp
      ·rw [upd_ne (wds D) _ e]; exact h a ha
     generalize htag:dq l bl = tag at *
     have hpd:=hpend tag rfl;cases hmode with
     | opn e1 e2 e3 =>
       obtain ⟨v,hv⟩:∃ v,Vc j (wds D) + pend tag = v + 1:=⟨Vc j (wds D) + pend tag - 1,by omega⟩;rw [hv] at hwg;have hw1:WgAt ty Wg w (((v:Nat) + 1) * KK + ((0:Nat):Int)) 0:=by simpa using hwg
       obtain ⟨g',hgo,_,hq⟩:=hall v 0 (by omega) (by omega) hw1;obtain ⟨q,hq⟩:=hq (by omega);have hv':Vc j (upd (wds D) k ⟨1,q,1⟩) + pend tag = v:=by have:=Vc_upd (wds D) (⟨1,q,1⟩:WD) hk; have:=hq0 q; omega
       refine book (wd':=⟨1,q,1⟩) hgo (aside_setCell w (stA Wg) _) (hwg.setSt _) bk_rw df2 (.quit hq) (by simp) rfl ?_ (by rw [hc1']; simp [cnt]) (.inl (by simp only; omega));have e:((v:Nat):Int) * KK + ((0:Nat):Int) = ((Vc j (upd (wds D) k ⟨1,q,1⟩) + pend tag:Nat):Int) * KK:=by rw [hv']; simp
       rw [e];exact .opn e1 (opq q e2) (fun vs ev=>by have:=e3 vs ev; omega)
     | reg e1 e2 e3 =>
       obtain ⟨v,hv⟩:∃ v,Vc j (wds D) = v + 1:=⟨Vc j (wds D) - 1,by omega⟩;rw [hv] at hwg;have hw1:WgAt ty Wg w (((v:Nat) + 1) * KK + ((1:Nat):Int)) 0:=by simpa using hwg
       obtain ⟨g',hgo,hl,hq⟩:=hall v 1 (by omega) (by omega) hw1
       by_cases hv0:v = 0
       ·subst hv0;obtain ⟨m2,hk2⟩:=hl ⟨rfl,rfl⟩;refine book (wd':=⟨4,m2,1⟩) hgo (aside_setCell w (stA Wg) _) (hwg.setSt _) bk_rw df2 (.d2 hk2) (by simp) rfl ?_ (by rw [hc1']; simp [cnt]) (.inl (by simp only; omega));have hoth:∀ a,a < j→a ≠ k→(wds D a).stage = 1:=fun a ha e=>by
         have c0:=others_uncounted hk hv hc1 a ha e;have:=e2 a ha;simp only [cnt] at c0;split at c0 <;> omega
        have:=ConcN.Mode.last (j:=j) (D:=upd (wds D) k ⟨4,m2,1⟩) (tag:=tag) k e1 hk (by rw [upd_same]; simp) (fun a ha e=>by rw [upd_ne (wds D) _ e]; exact hoth a ha e);rw [upd_same] at this
        simpa using this
       ·obtain ⟨q,hq⟩:=hq (by omega);have hv':Vc j (upd (wds D) k ⟨1,q,1⟩) = v:=by have:=Vc_upd (wds D) (⟨1,q,1⟩:WD) hk; have:=hq0 q; omega
        refine book (wd':=⟨1,q,1⟩) hgo (aside_setCell w (stA Wg) _) (hwg.setSt _) bk_rw df2 (.quit hq) (by simp) rfl ?_ (by rw [hc1']; simp [cnt]) (.inl (by simp only; omega));have e:((v:Nat):Int) * KK + ((1:Nat):Int) = ((Vc j (upd (wds D) k ⟨1,q,1⟩):Nat):Int) * KK + 1:=by rw [hv']; simp
        rw [e];exact .reg e1 (opq q e2) (by omega)
     | last L _ e2 e3 e4 =>
       by_cases e:k = L
       ·subst e; rw [hwd] at e3; omega
       ·have:=e4 k hk e; rw [hwd] at this; omega
     | sema e2=>have:=e2 k hk; rw [hwd] at this; omega
     | fin _ e2=>have:=e2 k hk; rw [hwd] at this; omega
    ·obtain ⟨g',w',es,hgo,⟨rfl,rfl⟩,hg'⟩:=hstep w (RW.refl w);exact idle' hgo (.d1 hg') (by omega)
  | d2 h1 =>
    rcases Goes.cases h1 with hstop | ⟨m',rfl,hstep⟩
    ·obtain ⟨_,hx⟩:=hstop w (RW.refl w);obtain ⟨hW3,hoth,rfl,rfl⟩:=hmode.isLast hk (by rw [hwd]; omega);rw [hwd] at hwg;simp only [hst] at hwg;obtain ⟨g',hgo,m2,hk2⟩:=hx (by simpa using hwg);refine book (wd':=⟨3,m2,1⟩) hgo (.refl Wg w) hwg bk_rd (df1 _ (by simp [rd])) (.d3 hk2) (by simp) rfl ?_ (by simp [cnt,hst]) (.inl (by simp only; omega));have:=ConcN.Mode.last (j:=j) (D:=upd (wds D) k ⟨3,m2,1⟩) (tag:=dq l bl) k hW3 hk (by rw [upd_same]; simp) (fun a ha e=>by rw [upd_ne (wds D) _ e]; exact hoth a ha e);rw [upd_same] at this
     simpa using this
    ·obtain ⟨g',w',es,hgo,⟨rfl,rfl⟩,hg'⟩:=hstep w (RW.refl w);exact idle' hgo (.d2 hg') (by omega)
  | d3 h1 =>
    rcases Goes.cases h1 with hstop | ⟨m',rfl,hstep⟩
    ·obtain ⟨_,hx⟩:=hstop w (RW.refl w);obtain ⟨hW3,hoth,rfl,rfl⟩:=hmode.isLast hk (by rw [hwd]; omega);rw [hwd] at hwg;simp only [hst] at hwg;obtain ⟨g',hgo,m2,hk2⟩:=hx (by simpa using hwg);refine book (wd':=⟨2,m2,1⟩) hgo (aside_setCell w (stA Wg) _) (hwg.setSt 0) (by intro e he; simp at he; subst he; exact bk_cell _ _ rfl) (df1 _ (by simp [wr])) (.d4 hk2) (by simp) rfl ?_ (by simp [cnt,hst]) (.inl (by simp only; omega));have:=ConcN.Mode.last (j:=j) (D:=upd (wds D) k ⟨2,m2,1⟩) (tag:=dq l bl) k hW3 hk (by rw [upd_same]; simp) (fun a ha e=>by rw [upd_ne (wds D) _ e]; exact hoth a ha e);rw [upd_same] at this
     simpa using this
    ·obtain ⟨g',w',es,hgo,⟨rfl,rfl⟩,hg'⟩:=hstep w (RW.refl w);exact idle' hgo (.d3 hg') (by omega)
  | d4 h1 =>
    rcases Goes.cases h1 with hstop | ⟨m',rfl,hstep⟩
    ·obtain ⟨_,hmw,hx⟩:=hstop w (RW.refl w);obtain ⟨hW3,hoth,rfl,rfl⟩:=hmode.isLast hk (by rw [hwd]; omega);rw [hwd] at hwg;simp only [hst] at hwg;obtain ⟨g',hgo,q,hq⟩:=hx (by simpa using hwg);have hrun':g'.status = .running:=by
      cases q with
      | zero=>exact absurd hq.2 (by decide)
      | succ q=>exact hq.elim (fun x=>absurd x.2 (by decide)) (fun x=>x.1)
     refine bookG (wd':=⟨1,q,1⟩) hgo (aside_setCell w (smA Wg) _) (hwg.setSm 1) (es:=semEvents (smA Wg)) bk_sem ?_ (.quit hq) (by simp) (by simp [deafBehind,semEvents]) ?_ (by simp [cnt,hst]) (.inl (by simp only; omega))
     ·intro jx e he
      match jx,he with
      | 0,he=>simp [semEvents] at he; subst he; exact .inl rfl
      | 1,_=>exact .inr (by simp [deafBehind,semEvents])
      | 2,_=>exact .inr (by simp [deafBehind,semEvents])
      | 3,he=>simp [semEvents] at he; subst he; exact .inl rfl
      | jx + 4,he=>simp [semEvents] at he
     ·intro bl' hbl hw;obtain rfl:=hw hmw hrun';have e4:l = [4]:=by
       rcases S.wf with ⟨r,s,rfl,_⟩ | ⟨_,h1⟩
       ·exact hW3.elim
       ·rcases h1 with rfl | ⟨b,rfl⟩ | ⟨b,rfl⟩ | rfl | rfl | rfl | rfl <;> first | rfl | exact hW3.elim
      subst e4;simp only [if_true];exact .sema fun a ha=>by
       by_cases e:a = k
       ·subst e; rw [upd_same]
       ·rw [upd_ne (wds D) _ e]; exact hoth a ha e
    ·obtain ⟨g',w',es,hgo,⟨rfl,rfl⟩,hg'⟩:=hstep w (RW.refl w);exact idle' hgo (.d4 hg') (by omega)
  | quit h1 =>
    cases m with
    | zero=>rw [h1.1] at hrun; cases hrun
    | succ q =>
      rcases h1 with ⟨hf,_⟩ | ⟨_,g',es,hmute,hstep,hq⟩
      ·rw [hf] at hrun; cases hrun
      ·have hbk:∀ e ∈ es,Bk Wg e:=fun e he=>bk_of_mute (hmute e he)
       have hno:∀ jx e,es[jx]? = some e→(MemAct.ofEvent e).touch? = none ∨ 0 < deafBehind dd (es.extract 0 jx):=fun jx e he=>.inl (touch_mute (hmute e (Array.mem_of_getElem? he)))
       refine book (wd':=⟨1,q,deafBehind dd es⟩) (hstep w) (.refl Wg w) hwg hbk hno (.quit hq) (by simp) rfl ?_ (by simp [cnt]) (.inr ⟨rfl,Nat.lt_succ_self q⟩);have:=hmode.same (i:=k) q (deafBehind dd es)
       rwa [hwd,hst] at this
end
end Go.Gx
namespace Go.Gx
open Go Go.Conc Go.ConcN
open Go.ConcR (KK wgBlock WgAt stA smA rd wr mk Payload DC0 Bk g_of_ofEvents bk_of_mute ofEvent_loc_mark deafBehind_cons deafBehind_one)
section
variable [Payload] [Duo] [Bad] {P:Program} {ty:TypeId} {Wg C n:Nat} {fv tv:Value} {Fin:Goroutine→World→Prop} {Shun:Loc→Prop} {base:Nat}
 {gs:Array Goroutine} {w w' u ux':World} {t:Trace} {j k:Nat} {D:Nat→WX} {q ow ow':Nat→Nat} {fr fr' d0:Nat} {l l':List Nat} {bl bl':Bool} {tr tr':Tr} {rem rem':Nat} {st sm st' sm':Int} {g g' a a':Goroutine} {es:Array Event} {sl:Option (Nat × Nat)}
def fF (o:Obj):Bool:=isP o || isV o
noncomputable def opened (K:Nat→Prop) (Wg:Nat) (u w:World):World :=
 open Classical in { w with heap:=w.heap.mapIdx fun b o=>if K b then (u.heap[b]?).getD dummy else if b = Wg ∨ fF o = true then dummy else o }
section
variable {K:Nat→Prop}
omit [Payload] [Duo] [Bad] in
theorem na:(opened K Wg u w).heap.size = w.heap.size:=by simp [opened]
omit [Payload] [Duo] [Bad] in
theorem tx {b:Nat} (m:Msk u w) (h:K b):(opened K Wg u w).heap[b]? = u.heap[b]?:=by
 simp only [opened,Array.getElem?_mapIdx];cases hw:w.heap[b]? with
 | none =>
   have h1:w.heap.size ≤ b:=by simpa using hw
   rw [Option.map_none,Array.getElem?_eq_none (by rw [← m.size]; exact h1)]
 | some o =>
   have h1:=aw hw;rw [m.size] at h1;rw [Option.map_some,if_pos h,Array.getElem?_eq_getElem h1,Option.getD_some]
omit [Payload] [Duo] [Bad] in
theorem opened_w {b:Nat} (h:¬ K b) (hW:b ≠ Wg) (hw:∀ o,w.heap[b]? = some o→fF o = false):(opened K Wg u w).heap[b]? = w.heap[b]?:=by
 simp only [opened,Array.getElem?_mapIdx];cases hw':w.heap[b]? with
 | none=>rfl
 | some o=>rw [Option.map_some,if_neg h,if_neg (by rintro (h1 | h1); exact hW h1; rw [hw o hw'] at h1; cases h1)]
omit [Payload] [Duo] [Bad] in
theorem gF {b:Nat} {o:Obj} (m:Msk u w) (ho:(opened K Wg u w).heap[b]? = some o):(K b ∧ u.heap[b]? = some o) ∨ (¬ K b ∧ o = dummy) ∨ (¬ K b ∧ b ≠ Wg ∧ fF o = false ∧ w.heap[b]? = some o):=by
 by_cases h:K b
 ·exact .inl ⟨h,by rw [← tx (Wg:=Wg) m h]; exact ho⟩
 ·simp only [opened,Array.getElem?_mapIdx] at ho;obtain ⟨o',h1,h2⟩:=Option.map_eq_some_iff.1 ho;rw [if_neg h] at h2;split at h2
  ·exact .inr (.inl ⟨h,h2.symm⟩)
  ·rename_i h3;subst h2;exact .inr (.inr ⟨h,fun e=>h3 (.inl e),by simpa using fun e=>h3 (.inr e),h1⟩)
omit [Payload] [Duo] [Bad] in
theorem opened_Wg (h:¬ K Wg) (hW:Wg < w.heap.size):(opened K Wg u w).heap[Wg]? = some dummy:=by
 simp only [opened,Array.getElem?_mapIdx];rw [Array.getElem?_eq_getElem hW,Option.map_some,if_neg h,if_pos (.inl trivial)]
omit [Payload] [Duo] [Bad] in
theorem opened_msk (m:Msk u w) (iR:∀ (b k:Nat) z,u.heap[b]? ≠ some (slot k z)) (kD:pe u):Msk (opened K Wg u w) w:=by
 refine ⟨na.symm,rfl,rfl,rfl,rfl,fun b hv=>?_,fun b k z hz=>?_,fun b k o z ho hr=>?_⟩
 ·cases ho:(opened K Wg u w).heap[b]? with
  | none =>
    have h1:(opened K Wg u w).heap.size ≤ b:=by simpa using ho
    rw [na] at h1;exact Array.getElem?_eq_none h1
  | some o =>
    rcases gF m ho with ⟨_,h2⟩ | ⟨_,rfl⟩ | ⟨_,_,_,h2⟩
    ·rw [m.vis b fun o' ho'=>?_,h2];rw [h2] at ho';exact hv o' (by rw [ho]; exact ho')
    ·have:=hv _ ho;simp [isP,dummy] at this
    ·exact h2
 ·rcases gF m hz with ⟨_,h2⟩ | ⟨_,h2⟩ | ⟨_,_,h2,_⟩
  ·exact absurd h2 (iR b k z)
  ·simp [slot,dummy] at h2
  ·simp [fF,isP,slot] at h2
 ·rcases gF m ho with ⟨_,h2⟩ | ⟨_,rfl⟩ | ⟨_,_,h2,_⟩
  ·exact absurd hr (kD b k o z h2)
  ·exact absurd hr iC
  ·simp [fF,gM hr.isH] at h2
omit [Payload] [Duo] [Bad] in
theorem opened_nv (m:Msk u w) (nv:a9 u):a9 (opened K Wg u w):=fun b o ho=>by
 rcases gF m ho with ⟨_,h2⟩ | ⟨_,rfl⟩ | ⟨_,_,h2,_⟩
 ·exact nv b o h2
 ·rfl
 ·simp only [fF,Bool.or_eq_false_iff] at h2;exact h2.2
omit [Payload] [Duo] [Bad] in
theorem opened_nosl (m:Msk u w) (iR:∀ (b k:Nat) z,u.heap[b]? ≠ some (slot k z)):∀ (b k:Nat) z,(opened K Wg u w).heap[b]? ≠ some (slot k z):=fun b k z hz=>by
 rcases gF m hz with ⟨_,h2⟩ | ⟨_,h2⟩ | ⟨_,_,h2,_⟩
 ·exact iR b k z h2
 ·simp [slot,dummy] at h2
 ·simp [fF,isP,slot] at h2
omit [Payload] [Duo] [Bad] in
theorem opened_noro (m:Msk u w) (kD:pe u):pe (opened K Wg u w):=fun b k o z ho hr=>by
 rcases gF m ho with ⟨_,h2⟩ | ⟨_,rfl⟩ | ⟨_,_,h2,_⟩
 ·exact kD b k o z h2 hr
 ·exact iC hr
 ·simp [fF,gM hr.isH] at h2
end
structure Ended (Wg C:Nat) (Shun:Loc→Prop) (i:Nat) (γ:List Nat) (w u:World):Prop where
 nv:a9 u
 msk:Msk u w
 cell:∀ b,Row C b→∃ z,u.heap[b]? = some (slot i z)
 xi:∃ o,u.heap[Wg]? = some o ∧ isH o = true
 gh:GhR u γ
 post:Duo.mF i u
 hid:∀ l,Shun l→lA u l
def wu (P:Program) (Wg C n:Nat) (Shun:Loc→Prop) (tv:Value) (K:Nat→Prop) (Fin:Goroutine→World→Prop) (m:Machine) (t:Trace):Prop :=
 ∃ gs w sl q Shun' g' v u γs,m = crowd gs w sl ∧ Fin g' v ∧ bo v u ∧ Msk u w ∧ w.heap[C]? = some (.cells (Array.replicate n tv) Payload.ety) ∧ Row2 n w ∧ uC w γs ∧ (∀ i,i < n→∃ ui,Ended Wg C Shun i (γs i) w ui) ∧ (∀ i,n ≤ i→γs i = Duo.ini) ∧ cu P Shun' t gs q g' (opened K Wg u w) w
theorem vc_lt (hn:n < 2147483648) (S:iv P ty Wg C n fv tv Fin Shun base gs w t j D q ow fr l bl tr rem st sm):Vc j (wds D) ≤ n:=Nat.le_trans (Vc_le j _) S.wf.le
theorem fitsB (hn:n < 2147483648) (S:iv P ty Wg C n fv tv Fin Shun base gs w t j D q ow fr l bl tr rem st sm):FitsL ty Wg l w:=by
 have hV:=vc_lt hn S;have hj:=Vc_le j (wds D);refine ⟨⟨st,sm,S.wg⟩,fun r e=>?_,fun b e=>?_,fun vs e=>?_,fun e=>?_⟩
 ·subst e;obtain ⟨_,h2,h3,_⟩:=S.mode.open_inv trivial;have hw:=S.wg;rw [h2,h3] at hw;refine ⟨Vc j (wds D),?_,by simpa [dq,pend] using hw⟩
  rcases S.wf with ⟨r',s,e,h⟩ | ⟨_,h1⟩
  ·omega
  ·rcases h1 with e | ⟨b,e⟩ | ⟨b,e⟩ | e | e | e | e <;> cases e
 ·subst e;obtain ⟨_,h2,h3,_⟩:=S.mode.open_inv trivial;have hw:=S.wg;rw [h2,h3] at hw;exact ⟨Vc j (wds D),S.bound b rfl,by omega,by simpa [dq,pend] using hw⟩
 ·subst e;obtain ⟨_,h2,h3,h4⟩:=S.mode.open_inv trivial;have hw:=S.wg;rw [h2,h3] at hw;exact ⟨Vc j (wds D),(h4 vs rfl).1,by omega,by simpa [dq,pend] using hw⟩
 ·subst e;obtain ⟨_,h2,h3⟩:=S.mode.fin_inv trivial;have hw:=S.wg;rw [h2,h3] at hw;exact hw
omit [Payload] in
theorem WfL.sp {r s:Nat} (h:WfL n j [0,r,s]) (s':Nat):WfL n j [0,r,s']:=by
 rcases h with ⟨r',s,e,h⟩ | ⟨_,h1⟩
 ·cases e;exact .inl ⟨_,_,rfl,h⟩
 ·rcases h1 with e | ⟨b,e⟩ | ⟨b,e⟩ | e | e | e | e <;> cases e
omit [Payload] in
theorem WfL.jn (h:WfL n j l) (hl:∀ r s,l ≠ [0,r,s]):j = n:=by
 rcases h with ⟨r',s,e,h⟩ | ⟨h,_⟩
 ·exact absurd e (hl _ _)
 ·exact h
def uD (Wg:Nat) (e:Event):Prop:=Bk Wg e ∨ e = ⟨.mark (.read (smA Wg)),false,true⟩ ∨ e = ⟨.mark (.write (smA Wg)),false,true⟩
theorem uD.touch {e:Event} (h:uD Wg e) {x:Touch} (hx:(MemAct.ofEvent e).touch? = some x):ShN Wg x.loc ∧ x.kind ≠ .plain:=by
 rcases h with h | rfl | rfl
 ·obtain ⟨h1,h2,_⟩:=BkR.touch (.inl h) hx;exact ⟨h1,h2⟩
 ·simp only [MemAct.ofEvent,MemAct.touch?,Option.some.injEq] at hx;subst hx;exact ⟨⟨_,rfl,rfl⟩,by simp⟩
 ·simp only [MemAct.ofEvent,MemAct.touch?,Option.some.injEq] at hx;subst hx;exact ⟨⟨_,rfl,rfl⟩,by simp⟩
theorem uD.low {e:Event} (h:uD Wg e) {B:Nat} (hB:Wg < B):(MemAct.ofEvent e).low B:=by
 rcases h with h | rfl | rfl
 ·exact BkR.low (.inl h) hB
 ·exact hB
 ·exact hB
theorem uD.norel {e:Event} (h:uD Wg e) (a:Addr):MemAct.ofEvent e ≠ .mark (.release a):=by
 rcases h with h | rfl | rfl
 ·exact BkR.norel (.inl h) a
 ·simp [MemAct.ofEvent]
 ·simp [MemAct.ofEvent]
theorem lH (S:iv P ty Wg C n fv tv Fin Shun base gs w t j D q ow fr l bl tr rem st sm) (h0:gs[0]? = some a) (hgo:stepG P true a w = .go a' w' es) (hA:Conc.Aside Wg w w') (hwg:WgAt ty Wg w' st' sm') (hev:∀ e ∈ es,uD Wg e)
 (hmain:∀ gs',gs'[0]? = some a'→qX P ty Wg C n fv tv Fin Shun l' bl' gs' w' ow tr' rem' fr) (hwf:WfL n j l') (hdeaf:deafBehind (gy l) es = gy l') (hmode:ConcN.Mode j (wds D) (dq l' bl') st' sm') (hbound:∀ b,l' = [2,b]→Vc j (wds D) ≤ b)
 (hlt:rMu (rem',(muL tr' D j,(sumTo base q,if bl' then 0 else 1))) (rem,(muL tr D j,(sumTo base q,if bl then 0 else 1)))) :
 ∃ m' ops μ',runT P (crowd gs w sl) 0 = (.next m',ops) ∧ rMu μ' (rem,(muL tr D j,(sumTo base q,if bl then 0 else 1))) ∧ oh P ty Wg C n fv tv Fin Shun base μ' m' (t ++ ops):=by
 have h:=S.com;have hrun:=runT_crowd_go (P:=P) (sl:=sl) (i:=0) h0 (show stepG P (0 == 0) a w = _ from hgo);have s:dU Wg w w':=.of_wg hA h.ap.rw;have hp:=h.pos;refine ⟨_,_,(rem',(muL tr' D j,(sumTo base q,if bl' then 0 else 1))),hrun,hlt,_,w',sl,j,D,q,ow,fr,l',bl',tr',rem',st',sm',rfl,⟨?_,hmain _ (get_map_set_same _ _ _ (by rw [h.size]; omega)),hwf,hwg,hmode,hbound,S.rR⟩,rfl⟩;rw [← hdeaf];exact h.step0 (Nat.le_of_eq hA.size.symm) (fun i hi g0 hw0=>hw0.lib s h.ap ⟨_,_,hwg⟩) (fun e he=>⟨rfl,fun x hx=>.inl ((hev e he).touch hx)⟩) (fun e he=>(hev e he).low (by rw [hA.size]; exact h.ltW)) (fun e he a=>(hev e he).norel a)
  (fun i hi h6=>(s.cell h.ap (.inl rfl) i).trans (h.has i hi h6)) (fun i hi hin=>(s.cell h.ap (.inl rfl) i).trans (h.un i hi hin)) (s.pay h.ap h.pay) (fun b hb=>hA.block b fun e=>S.rR _ e hb) (s.row h.ap (.inr rfl)) (hA.block _ h.ap.rw)
theorem mainK {gm:Goroutine} (hn:n < 2147483648) (S:iv P ty Wg C n fv tv Fin Shun base gs w t j D q ow fr l false tr rem st sm) (h0:gs[0]? = some gm) (hm:eL Wg C Shun ow l w u) (hgo:stepG P true gm w = .go g' w' es) (hg':g'.status = .running) (hR:Rel ty Wg n l l' w w' es)
 (hT:RunT (XB P ty Wg n) P true (pmM fr) fr (TM P ty Wg C n fv tv Fin rem fr) tr' g' (dw u Wg (gh l'))) (hsub:Tr.Sub tr' tr) :
 ∃ m' ops μ',runT P (crowd gs w sl) 0 = (.next m',ops) ∧ rMu μ' (rem,(muL tr D j,(sumTo base q,if (false:Bool) then 0 else 1))) ∧ oh P ty Wg C n fv tv Fin Shun base μ' m' (t ++ ops):=by
 have hlt:rMu (rem,(muL tr' D j,(sumTo base q,if (false:Bool) then 0 else 1))) (rem,(muL tr D j,(sumTo base q,if (false:Bool) then 0 else 1))):=Prod.Lex.right _ (Prod.Lex.left _ _ (.head (Prod.Lex.left _ _ hsub)));have hM:∀ {w':World},dU Wg w w'→∀ gs':Array Goroutine,gs'[0]? = some g'→qX P ty Wg C n fv tv Fin Shun l' false gs' w' ow tr' rem fr:=fun {w'} s gs' h=>by
  have hWl:Wg < u.heap.size:=aw hm.hW;exact ⟨g',dw u Wg (gh l'),dw (u.at w'.drawn) Wg (gh l'),by simpa using h,hg',hT,qv (bo.at u _) hWl,(hm.lib s).dw l' S.com.ap S.rR,fun e=>by cases e⟩
 have hwg:=S.wg;have hmode:=S.mode;have hV:=vc_lt hn S;have kk:∀ a b:Nat,(a:Int) * KK = (b:Int) * KK→a = b:=fun a b e=>by simp only [KK] at e; omega
 cases hR with
 | @dis r =>
   exact lH S h0 hgo (.refl Wg w) hwg (fun e he=>.inl (bk_dis e he)) (hM (.refl w)) (S.wf.sp _)
    (by simp [gy,deafBehind,mk]) (hmode.reopen trivial trivial rfl (by simp [dq])) (fun b e=>by cases e) hlt
 | @add r c _ hc =>
   obtain ⟨ho,rfl,rfl,_⟩:=hmode.open_inv trivial;have e1:=(hwg.unique hc).1;have ec:Vc j (wds D) = c:=kk _ _ (by simpa [dq,pend] using e1);subst ec;refine lH (sm':=0) (st':=(((Vc j (wds D):Nat):Int) + 1) * KK) S h0 hgo (aside_setCell w (stA Wg) _) (hwg.setSt _) (fun e he=>.inl (bk_rw e he)) (hM (.of_wg (aside_setCell w (stA Wg) _) S.com.ap.rw)) (S.wf.sp _)
    (by simp [gy,deafBehind,rd,wr]) ?_ (fun b e=>by cases e) hlt
   have e:(((Vc j (wds D):Nat):Int) + 1) * KK = ((Vc j (wds D) + pend (.sp r 3):Nat):Int) * KK:=by simp [pend]
   rw [e];exact .opn trivial ho (by simp [dq])
 | said he =>
   refine lH S h0 hgo (.refl Wg w) hwg (fun e he'=>by rw [Array.mem_singleton] at he'; subst he'; exact .inr he) (hM (.refl w)) S.wf ?_ hmode S.bound hlt
   rcases he with rfl | rfl <;> simp [deafBehind]
 | @en r =>
   exact lH S h0 hgo (.refl Wg w) hwg (fun e he=>.inl (bk_en e he)) (hM (.refl w)) (S.wf.sp _)
    (by simp [gy,deafBehind,mk]) (hmode.reopen trivial trivial rfl (by simp [dq])) (fun b e=>by cases e) hlt
 | wdis =>
   have ej:j = n:=S.wf.jn (by simp);exact lH S h0 hgo (.refl Wg w) hwg (fun e he=>.inl (bk_dis e he)) (hM (.refl w)) (.inr ⟨ej,.inr (.inl ⟨_,rfl⟩)⟩)
    (by simp [gy,deafBehind,mk]) (hmode.reopen trivial trivial rfl (by simp [dq])) (fun b e=>by cases e; exact hV) hlt
 | @ld0 b _ hc =>
   have ej:j = n:=S.wf.jn (by simp);obtain ⟨ho,rfl,rfl,_⟩:=hmode.open_inv trivial;have e1:=(hwg.unique hc).1;have ec:Vc j (wds D) = 0:=by have:=kk (Vc j (wds D) + pend (dq [2,b] false)) 0 (by simpa using e1); omega
   refine lH S h0 hgo (.refl Wg w) hwg (fun e he=>.inl (bk_rd e he)) (hM (.refl w)) (.inr ⟨ej,by simp⟩) (by simp [gy,deafBehind,rd]) ?_ (fun b e=>by cases e) hlt;have z:((Vc j (wds D) + pend (dq [2,b] false):Nat):Int) * KK = 0:=e1;rw [z];exact .fin trivial (allQuit_of ho ec)
 | @ld b c _ hc h1 h2 =>
   have ej:j = n:=S.wf.jn (by simp);obtain ⟨ho,rfl,rfl,_⟩:=hmode.open_inv trivial;have e1:=(hwg.unique hc).1;have ec:Vc j (wds D) = c:=kk _ _ (by simpa [dq,pend] using e1);exact lH S h0 hgo (.refl Wg w) hwg (fun e he=>.inl (bk_rd e he)) (hM (.refl w)) (.inr ⟨ej,by simp⟩) (by simp [gy,deafBehind,rd])
    (hmode.reopen trivial trivial rfl (fun vs e=>by simp only [dq] at e; cases e; exact ⟨by omega,by omega⟩)) (fun b e=>by cases e) hlt
 | @hit c _ hc =>
   have ej:j = n:=S.wf.jn (by simp);obtain ⟨ho,rfl,rfl,h4⟩:=hmode.open_inv trivial;have e1:=(hwg.unique hc).1;have ec:Vc j (wds D) = c:=kk _ _ (by simpa [dq,pend] using e1);subst ec;exact lH S h0 hgo (aside_setCell w (stA Wg) _) (hwg.setSt _) (fun e he=>.inl (bk_rw e he)) (hM (.of_wg (aside_setCell w (stA Wg) _) S.com.ap.rw)) (.inr ⟨ej,by simp⟩) (by simp [gy,deafBehind,rd,wr])
    (.reg trivial ho (h4 _ rfl).2) (fun b e=>by cases e) hlt
 | @miss vs c _ hc h1 =>
   have ej:j = n:=S.wf.jn (by simp);obtain ⟨ho,rfl,rfl,h4⟩:=hmode.open_inv trivial;have e1:=(hwg.unique hc).1;have ec:Vc j (wds D) = c:=kk _ _ (by simpa [dq,pend] using e1);exact lH S h0 hgo (.refl Wg w) hwg (fun e he=>.inl (bk_rd e he)) (hM (.refl w)) (.inr ⟨ej,by simp⟩) (by simp [gy,deafBehind,rd])
    (hmode.reopen trivial trivial rfl (by simp [dq])) (fun b e=>by cases e; omega) hlt
 | ld4 =>
   have ej:j = n:=S.wf.jn (by simp);obtain ⟨hq,rfl,rfl⟩:=hmode.fin_inv trivial;exact lH S h0 hgo (.refl Wg w) hwg (fun e he=>.inl (bk_rd e he)) (hM (.refl w)) (.inr ⟨ej,by simp⟩) (by simp [gy,deafBehind,rd]) (.fin trivial hq) (fun b e=>by cases e) hlt
 | enk =>
   have ej:j = n:=S.wf.jn (by simp);obtain ⟨hq,rfl,rfl⟩:=hmode.fin_inv trivial;exact lH S h0 hgo (.refl Wg w) hwg (fun e he=>.inl (bk_en e he)) (hM (.refl w)) (.inr ⟨ej,by simp⟩) (by simp [gy,deafBehind,mk]) (.fin trivial hq) (fun b e=>by cases e) hlt
theorem ok0_evs {e:Event} {s':Nat→Nat} (h:EvS (pmM fr) fr u e) (V:eL Wg C Shun ow l w' u) (hsz:u.heap.size = w'.heap.size):∀ fn pos,(pls Wg C Shun j fr ow s').Ok0 { g:=0,fn,pos,act:=.ofEvent e }:=fun fn pos=>⟨rfl,fun x hx=>by
 rcases h with ⟨a,h1,h2,h3,h4⟩ | ⟨r,h1,h2,h3,h4,h5⟩ | ⟨m,hm,rfl⟩
 ·obtain ⟨loc,wr,sy⟩:=e;simp only at h1 h4;subst h1;simp only [ofEvent_cell0,MemAct.touch?,Option.some.injEq] at hx;subst hx
  rcases h4 with ⟨hv,hw⟩ | ⟨hsp,⟨z,hz⟩,hw⟩ | ⟨_,_,o,z,hz,hr⟩
  ·have hC:¬ Row C a.block:=fun e=>V.not (.inl e) hv
   have hR:a.block ≠ Duo.R:=fun e=>V.not (.inr e) hv
   have hW:a.block ≠ Wg:=fun e=>V.notW (e ▸ hv)
   have h0:=V.vis a.block (by omega) hv;have hS:¬ Shun (.cell a):=fun hS=>(V.hid _ hS).pI hv
   exact .inr ⟨⟨a.block,rfl,hC,hW,h0,hS,fun e=>hR (by cases e; rfl)⟩,fun e=>.inl ⟨a.block,rfl,hC,hR,hW,h0,(hw e).2,hS⟩⟩
  ·exact absurd hz (V.iR _ _ _)
  ·exact absurd hr (V.kD _ _ _ _ hz)
 ·obtain ⟨loc,wr,sy⟩:=e;simp only at h1 h4 h5;subst h1 h4;have hC:¬ Row C r:=fun e=>V.not (.inl e) h3
  have hR:r ≠ Duo.R:=fun e=>V.not (.inr e) h3
  have hW:r ≠ Wg:=fun e=>V.notW (e ▸ h3)
  have h0:=V.vis r (by omega) h3;have hS:¬ Shun (.obj r):=fun hS=>by obtain ⟨a,o,h,_⟩:=V.hid _ hS; cases h
  have hxl:x.loc = .obj r ∧ x.write = wr:=by cases wr <;> simp [MemAct.ofEvent,MemAct.touch?] at hx <;> (subst hx; exact ⟨rfl,rfl⟩)
  rw [hxl.1,hxl.2];exact .inr ⟨⟨r,rfl,hC,hW,h0,hS,fun e=>by cases e⟩,fun e=>.inl ⟨r,rfl,hC,hR,hW,h0,(h5 e).2,hS⟩⟩
 ·rcases hm with rfl | ⟨f,rfl⟩ <;> simp [MemAct.ofEvent,MemAct.touch?] at hx⟩
theorem mainP {gm:Goroutine} (S:iv P ty Wg C n fv tv Fin Shun base gs w t j D q ow fr l false tr rem st sm) (h0:gs[0]? = some gm) (hm:eL Wg C Shun ow l w u) (hp:uF P true (pmM fr) fr gm u w g' ux') (hg':g'.status = .running)
 (hT:RunT (XB P ty Wg n) P true (pmM fr) fr (TM P ty Wg C n fv tv Fin rem fr) tr' g' ux') (hsub:Tr.Sub tr' tr) :
 ∃ m' ops μ',runT P (crowd gs w sl) 0 = (.next m',ops) ∧ rMu μ' (rem,(muL tr D j,(sumTo base q,if (false:Bool) then 0 else 1))) ∧ oh P ty Wg C n fv tv Fin Shun base μ' m' (t ++ ops):=by
 have h:=S.com;obtain ⟨w',es,hgo,htn,hbs,hev⟩:=hp;have hsz:w.heap.size ≤ w'.heap.size:=by rw [hm.msk.size,hbs.msk.size]; exact htn.size
 have V':=hm.own htn hbs h.owf;have Lf:Left Wg C n (fun _=>False) w w':=left_main hm hbs;have hwg:WgAt ty Wg w' st sm:=S.wg.of_block Lf.wg;have hrun:=runT_crowd_go (P:=P) (sl:=sl) (i:=0) h0 (show stepG P (0 == 0) gm w = _ from hgo);have hpos:=h.pos;refine ⟨_,_,(rem,(muL tr' D j,(sumTo base q,if (false:Bool) then 0 else 1))),hrun,Prod.Lex.right _ (Prod.Lex.left _ _ (.head (Prod.Lex.left _ _ hsub))),_,w',sl,j,D,q,ow,fr,l,false,tr',rem,st,sm,rfl,⟨?_,?_,S.wf,hwg,S.mode,S.bound,S.rR⟩,rfl⟩
 ·rw [← deafBehind_idle (es:=es) (fun e he=>(hev e he).still) (gy l)];refine h.step0 hsz (fun i hi g0 hw0=>?_) (fun e he=>ok0_evs (hev e he) V' hbs.msk.size.symm _ _) (fun e he=>by rw [hbs.msk.size]; exact (hev e he).low) (fun e he a=>o8 (hev e he) a)
   (fun i hi h6=>(Lf.cell i id h.pay).trans (h.has i hi h6)) (fun i hi hin=>(Lf.cell i id h.pay).trans (h.un i hi hin)) (Lf.pay h.pay) (mS hm.hid hbs) (let ⟨o,ho,hh⟩:=hm.hC _ (.inl (.inr rfl)); hbs.hid _ o ho hh) Lf.word
  refine hw0.other (fun u1 R1=>⟨_,dN u1 w',R1.other htn hbs hm.msk (fun _ _=>rfl) (sep_main R1 hm (h.sfr i hi)) (fun b hb=>.inl (hm.hC b (.inl hb))) (hm.hC _ (.inr rfl))⟩) Lf h.pay id
 ·exact ⟨g',ux',ux',by simpa using get_map_set_same (woken P gm g' w') 0 g' (by rw [h.size]; omega),hg',hT,.refl _,V',fun e=>by cases e⟩
omit [Payload] [Bad] in
theorem born_get {u:World} {b:Nat} (hR:Duo.R < u.heap.size) (h2:Duo.C2 < u.heap.size) (hC:C < u.heap.size):(iN C j fv u).heap[b]? = if b = Duo.R then some (roB Duo.ini) else if b = Duo.C2 then some (slot j Duo.fv2) else if b = C then some (slot j fv) else u.heap[b]?:=by
 unfold iN
 by_cases e:b = Duo.R
 ·rw [if_pos e,e]; exact cR (by rw [di,di]; exact hR)
 ·rw [if_neg e,dJ (Ne.symm e)]
  by_cases e2:b = Duo.C2
  ·rw [if_pos e2,e2]; exact cR (by rw [di]; exact h2)
  ·rw [if_neg e2,dJ (Ne.symm e2)]
   by_cases e3:b = C
   ·rw [if_pos e3,e3]; exact cR hC
   ·rw [if_neg e3,dJ (Ne.symm e3)]
theorem spawnV (h:lB P ty Wg C n fv tv Shun base j gs w t D d0 q ow fr) (hm:eL Wg C Shun ow l w u) (hj:j < n) (hSC:∀ a,(Row C a.block ∨ a.block = Duo.R)→¬ Shun (.cell a)):VW Wg C Shun ow j w.heap.size Duo.ini w (iN C j fv u):=by
 have hlt:∀ b,Row C b ∨ b = Duo.R→b < u.heap.size:=fun b hb=>by rw [← hm.msk.size]; exact h.ltC b hb
 have get:∀ b,(iN C j fv u).heap[b]? = _:=fun b=>born_get (C:=C) (j:=j) (fv:=fv) (hlt _ (.inr rfl)) (hlt _ (.inl (.inr rfl))) (hlt _ (.inl (.inl rfl)))
 have ge:∀ b,¬ (Row C b ∨ b = Duo.R)→(iN C j fv u).heap[b]? = u.heap[b]?:=fun b hb=>by
  rw [get,if_neg fun e=>hb (.inr e),if_neg fun e=>hb (.inl (.inr e)),if_neg fun e=>hb (.inl (.inl e))]
 have g2:(iN C j fv u).heap[Duo.C2]? = some (slot j Duo.fv2):=by rw [get,if_neg fun e=>h.ap.cr (.inr e.symm),if_pos rfl]
 have g1:(iN C j fv u).heap[C]? = some (slot j fv):=by rw [get,if_neg fun e=>h.ap.cr (.inl e.symm),if_neg h.c2,if_pos rfl]
 have gR:(iN C j fv u).heap[Duo.R]? = some (roB Duo.ini):=by rw [get,if_pos rfl]
 have hP:∀ b,Row C b ∨ b = Duo.R→¬ Vis (iN C j fv u) b:=fun b hb hv=>by
  rcases hb with (rfl | rfl) | rfl
  ·have:=hv _ g1; simp [isP,slot] at this
  ·have:=hv _ g2; simp [isP,slot] at this
  ·have:=hv _ gR; rw [gM (oA _)] at this; cases this
 have vi:∀ b,Vis (iN C j fv u) b→¬ (Row C b ∨ b = Duo.R) ∧ Vis u b:=fun b hv=>by
  have hb:¬ (Row C b ∨ b = Duo.R):=fun e=>hP b e hv
  exact ⟨hb,fun o ho=>hv o (by rw [ge b hb]; exact ho)⟩
 have sl:∀ (b k:Nat) z,(iN C j fv u).heap[b]? = some (slot k z)→k = j ∧ ((b = C ∧ z = fv) ∨ (b = Duo.C2 ∧ z = Duo.fv2)):=fun b k z hz=>by
  by_cases e:Row C b ∨ b = Duo.R
  ·rcases e with (rfl | rfl) | rfl
   ·rw [g1] at hz;obtain ⟨rfl,rfl⟩:=kx (Option.some.inj hz);exact ⟨rfl,.inl ⟨rfl,rfl⟩⟩
   ·rw [g2] at hz;obtain ⟨rfl,rfl⟩:=kx (Option.some.inj hz);exact ⟨rfl,.inr ⟨rfl,rfl⟩⟩
   ·rw [gR] at hz;have:=oA Duo.ini;rw [Option.some.inj hz] at this;simp [isH,slot] at this
  ·rw [ge b e] at hz;exact absurd hz (hm.iR b k z)
 have ro:∀ (b k:Nat) o z,(iN C j fv u).heap[b]? = some o→Ro o k z→b = Duo.R:=fun b k o z ho hr=>by
  by_cases e:Row C b ∨ b = Duo.R
  ·rcases e with (rfl | rfl) | rfl
   ·rw [g1] at ho;have:=hr.isH;rw [← Option.some.inj ho] at this;simp [isH,slot] at this
   ·rw [g2] at ho;have:=hr.isH;rw [← Option.some.inj ho] at this;simp [isH,slot] at this
   ·rfl
  ·rw [ge b e] at ho;exact absurd hr (hm.kD b k o z ho)
 obtain ⟨σ,hd1,_⟩:=h.word;refine ⟨j1 (j1 (j1 hm.nv rfl) rfl) rfl,⟨by simp only [iN,di]; exact hm.msk.size,hm.msk.tape,hm.msk.drawn,hm.msk.os,hm.msk.output,fun b hv=>?_,fun b k z hz=>?_,fun b k o z ho hr=>?_⟩,fun b hb=>?_,⟨_,by rw [ge Wg fun e=>e.elim h.ap.cw fun e=>h.ap.rw e.symm]; exact hm.hW,gh_H l⟩,fun b hb hv=>.inl ⟨hb,hm.vis b hb (vi b hv).2⟩,fun b k z hz=>?_,fun l hl=>?_,gR,ro,h.owR,h.ltC _ (.inr rfl)⟩
 ·obtain ⟨hb,hv'⟩:=vi b hv;rw [ge b hb];exact hm.msk.vis b hv'
 ·obtain ⟨rfl,⟨rfl,rfl⟩ | ⟨rfl,rfl⟩⟩:=sl b k z hz
  ·exact oF (let ⟨cs,h1,_⟩:=h.pay; ⟨cs,_,h1⟩) (h.un k (Nat.le_refl _) hj)
  ·exact oF h.uR.ex (h.un2 k (Nat.le_refl _) hj)
 ·obtain rfl:=ro b k o z ho hr;rw [gR] at ho;rw [← Option.some.inj ho] at hr;obtain ⟨h1,h2⟩:=jM.1 hr;exact ⟨_,_,hd1,(c0_lt h1).trans h2⟩
 ·rcases hb with rfl | rfl
  ·exact ⟨_,g1⟩
  ·exact ⟨_,g2⟩
 ·obtain ⟨h1,⟨h2,_⟩ | ⟨h2,_⟩⟩:=sl b k z hz
  ·exact ⟨.inl h2,h1⟩
  ·exact ⟨.inr h2,h1⟩
 ·obtain ⟨a,o,h1,h2,h3,h4⟩:=hm.hid l hl;subst h1;exact ⟨a,o,rfl,by rw [ge a.block fun e=>hSC a e hl]; exact h2,h3,h4⟩
end
end Go.Gx
namespace Go.Gx
open Go Go.Conc Go.ConcN
open Go.ConcR (KK wgBlock WgAt stA smA rd wr mk Payload DC0 Bk g_of_ofEvents bk_of_mute ofEvent_loc_mark deafBehind_cons deafBehind_one)
section
variable [Payload] [Duo] [Bad] {P:Program} {ty:TypeId} {Wg C n:Nat} {fv tv:Value} {Fin:Goroutine→World→Prop} {Shun:Loc→Prop} {base:Nat}
 {gs:Array Goroutine} {w w' u ux':World} {t:Trace} {j k:Nat} {D:Nat→WX} {q ow ow':Nat→Nat} {fr fr' d0:Nat} {l l':List Nat} {bl bl':Bool} {tr tr':Tr} {rem rem':Nat} {K:Nat→Prop} {st sm st' sm':Int} {g g' a a':Goroutine} {es:Array Event} {sl:Option (Nat × Nat)}
theorem allQuit_has (S:iv P ty Wg C n fv tv Fin Shun base gs w t j D q ow fr l bl tr rem st sm) (hq:AllQuit j (wds D)) (hj:j = n):w.heap[C]? = some (.cells (Array.replicate n tv) Payload.ety):=by
 obtain ⟨cs,h1,h2⟩:=S.com.pay;have:cs = Array.replicate n tv:=by
  apply Array.ext_getElem?;intro i
  rcases Nat.lt_or_ge i n with hlt | hge
  ·have:=S.com.has i (by omega) (by have:=hq i (by omega); simp only [wds] at this; omega);simp only [Has,World.cell?,h1] at this;rw [Array.getElem?_replicate,if_pos hlt]
   simpa using this
  ·rw [Array.getElem?_eq_none (by omega),Array.getElem?_eq_none (by simp; omega)]
 rw [h1,this]
theorem mainA {gm:Goroutine} {v:World} (S:iv P ty Wg C n fv tv Fin Shun base gs w t j D q ow fr [7] false tr rem st sm) (h0:gs[0]? = some gm) (hm:eL Wg C Shun ow [7] w u) (hv:bo v u) (hg':g'.status = .running) (hst:∀ w,stepG P true gm w = .go g' w #[mk (.acquire (stA Wg))]) (hF:Fin g' v) (hKS:∀ a,Shun (.cell a)→K a.block) (hKR:∀ b,(Row C b ∨ b = Duo.R ∨ b = Wg)→¬ K b) :
 ∃ m' ops,runT P (crowd gs w sl) 0 = (.next m',ops) ∧ wu P Wg C n Shun tv K Fin m' (t ++ ops):=by
 have h:=S.com;have hp:=h.pos;have hrun:=runT_crowd_go (P:=P) (sl:=sl) (i:=0) h0 (show stepG P (0 == 0) gm w = _ from hst w);obtain ⟨hq,rfl,rfl⟩:=S.mode.fin_inv trivial;have hj:j = n:=S.wf.jn (by simp);have hrow:=allQuit_has S hq hj;have ho:∀ op ∈ MemOp.ofEvents 0 gm.frame.fn gm.frame.place #[mk (.acquire (stA Wg))],op.g = 0:=g_of_ofEvents;have hq1:∀ i,i < j→(D i).wd.stage = 1:=fun i hi=>hq i hi
 have hend:∀ i,i < n→∃ ui,Ended Wg C Shun i (gms j D i) w ui:=fun i hi=>by
  subst hj;obtain ⟨z,hz,hw⟩:=h.wk i hi;have h1:=hq1 i hi
  rcases hw with ⟨_,u1,R⟩ | ⟨_,_,_,ui,V,hpost⟩
  ·rw [R.wd] at h1; cases h1
  ·exact ⟨ui,V.nv,V.msk,V.cell,V.xi,by unfold gms; rw [if_pos hi]; exact V.gh,hpost,V.hid⟩
 refine ⟨_,_,hrun,_,w,sl,fun i=>if i < base then q i else (D (i - base)).wd.fuel,fun l=>Shun l ∨ ShN Wg l,g',v,u,gms j D,rfl,hF,hv,hm.msk,hrow,h.uR,h.word,hend,(fun i hi=>by unfold gms; rw [if_neg (by omega)]),⟨get_map_set_same _ _ _ (by rw [h.size]; omega),⟨fun i y hi hy=>?_,fun i hi=>?_⟩,?_,?_,fun a=>ki (h.norel a) fun e he=>?_,opened_nv hm.msk hm.nv,opened_msk hm.msk hm.iR hm.kD,fun l hl=>?_,opened_nosl hm.msk hm.iR,opened_noro hm.msk hm.kD,fun b hb=>⟨.inl (h.kept b hb).1,(h.kept b hb).2⟩⟩⟩
 ·rw [Array.getElem?_setIfInBounds_ne (by omega),Array.getElem?_map] at hy;obtain ⟨z,hz,rfl⟩:=Option.map_eq_some_iff.1 hy;rw [Deaf_other t (by omega) _ ho]
  by_cases hb:i < base
  ·have hqd:=h.old i z hi hb hz;rw [woken_quitsD hqd,if_pos hb];exact hqd
  ·have hlt:=(Array.getElem?_eq_some_iff.1 hz).1;rw [h.size] at hlt;obtain ⟨z',hz',hw⟩:=h.wk (i - base) (by omega);rw [show base + (i - base) = i by omega] at hz';rw [hz] at hz';obtain rfl:=Option.some.inj hz';rw [hw.woken,if_neg hb];have hd:=h.deafW (i - base) (by omega);rw [show base + (i - base) = i by omega] at hd;rw [hd];have h1:=hq1 (i - base) (by omega)
   rcases hw with ⟨_,u1,R⟩ | ⟨_,_,hL,_⟩
   ·rw [R.wd] at h1; cases h1
   ·rcases hL with ⟨h7,_⟩ | ⟨_,hW⟩
    ·omega
    ·exact hW.quits h1
 ·have hi':base + j ≤ i:=by simpa [h.size] using hi
  rw [Deaf_other t (by omega) _ ho];exact Deaf_absent fun a op ha e=>by have:=h.ct.gs a op ha; omega
 ·have:=h.ct.acquired (a:=stA Wg) (fun k hk=>h.rel k hk (by have:=hq1 k hk; omega)) (h.norel _) h.deaf0 gm.frame.fn gm.frame.place h.ltW;exact this
 ·rw [show ((gs.map (Go.Conc.woken P gm g' w)).setIfInBounds 0 g').size = gs.size by simp,h.size];exact xq h.ct.gs (by omega)
 ·rw [Array.mem_singleton] at he;subst he;simp [mk,MemAct.ofEvent]
 ·rcases hl with hl | ⟨a,h1,h2⟩
  ·obtain ⟨a,o,h1,h2,h3,h4⟩:=hm.hid l hl;subst h1;exact ⟨a,o,rfl,by rw [tx hm.msk (hKS a hl)]; exact h2,h3,h4⟩
  ·subst h1;refine .mk0 (c:=#[]) ?_;rw [h2];exact opened_Wg (hKR Wg (.inr (.inr rfl))) h.ltW
theorem stepMain {gm:Goroutine} (hn:n < 2147483648) (hKS:∀ a,Shun (.cell a)→K a.block) (hKR:∀ b,(Row C b ∨ b = Duo.R ∨ b = Wg)→¬ K b) (S:iv P ty Wg C n fv tv Fin Shun base gs w t j D q ow fr l bl tr rem st sm) (h0:gs[0]? = some gm) (hrun:gm.status = .running) :
 (∃ m' ops,runT P (crowd gs w sl) 0 = (.next m',ops) ∧ wu P Wg C n Shun tv K Fin m' (t ++ ops)) ∨
 ∃ m' ops μ',runT P (crowd gs w sl) 0 = (.next m',ops) ∧ rMu μ' (rem,(muL tr D j,(sumTo base q,if bl then 0 else 1))) ∧ oh P ty Wg C n fv tv Fin Shun base μ' m' (t ++ ops):=by
 have h:=S.com;obtain ⟨gm',v,u,e0,e1,hT,hg,hm,hb⟩:=S.main;cases bl with
 | true =>
   simp only [if_true] at e0;rw [h0] at e0;rw [Option.some.inj e0] at hrun;cases hrun
 | false =>
   simp only [Bool.false_eq_true,if_false] at e0;rw [h0] at e0;obtain rfl:=Option.some.inj e0;have hWv:∀ {l1:List Nat},v.heap[Wg]? = some (gh l1)→l = l1:=fun hv=>xl hm.hW (by rw [hg.old _ (aw hv)]; exact hv)
   rcases hT.cases with ⟨rfl,hstop⟩ | ⟨_,_,b1,hb1,hst⟩
   ·have acq:xK P Wg Fin gm v→∃ m' ops,runT P (crowd gs w sl) 0 = (.next m',ops) ∧ wu P Wg C n Shun tv K Fin m' (t ++ ops):=fun ⟨_,hv,g',hg',hst,hF⟩=>by
     obtain rfl:=hWv hv;exact mainA S h0 hm hg hg' hst hF hKS hKR
    match rem,hstop with
    | 0,hstop=>exact .inl (acq hstop)
    | 1,.inl hstop=>exact .inl (acq hstop)
    | 1,.inr ⟨hv,hB,g',hg',hst,hnext⟩ =>
      obtain rfl:=hWv hv;have ej:j = n:=S.wf.jn (by simp);have hWl:Wg < u.heap.size:=aw hm.hW;have hmode:=S.mode;have hwg:=S.wg;have held:sm = 0→ConcN.Mode j (wds D) .blk st 0→∃ m' ops μ',runT P (crowd gs w sl) 0 = (.next m',ops) ∧ rMu μ' (1,(muL .leaf D j,(sumTo base q,if (false:Bool) then 0 else 1))) ∧ oh P ty Wg C n fv tv Fin Shun base μ' m' (t ++ ops):=fun es hmd=>by
       subst es;exact lH (l':=[4]) (bl':=true) (tr':=.leaf) (rem':=1) (es:=#[]) S h0 (hB.2.2 w ⟨st,hwg⟩) (.refl Wg w) hwg (by simp) (fun gs' hgs'=>⟨gm,v,u,by simpa using hgs',e1,hT,hg,hm,fun _=>⟨rfl,hB⟩⟩) S.wf rfl hmd (fun b e=>by cases e) (Prod.Lex.right _ (Prod.Lex.right _ (Prod.Lex.right _ (by decide))))
      have em:ConcN.Mode j (wds D) .w3 st sm:=hmode;cases em with
      | opn e1 _ _=>exact e1.elim
      | reg h1 h2 h3=>exact .inr (held rfl (.reg trivial h2 h3))
      | last L h1 h2 h3 h4=>exact .inr (held rfl (.last L trivial h2 h3 h4))
      | sema h2 =>
        obtain ⟨tr2,hT2⟩:=(hnext u hg hm.nv).tree;exact .inr (lH (l':=[5]) (bl':=false) (tr':=tr2) (rem':=0) S h0 (hst w hwg) (aside_setCell w (smA Wg) _) (hwg.setSm 0) (fun e he=>.inl (bk_sem e he))
         (fun gs' hgs'=>⟨g',_,dw (u.at _) Wg (gh [5]),by simpa using hgs',hg',hT2,qv (bo.at u _) hWl,(hm.lib (.of_wg (aside_setCell w (smA Wg) _) h.ap.rw)).dw [5] h.ap S.rR,fun e=>by cases e⟩)
         (.inr ⟨ej,by simp⟩) (by simp [gy,deafBehind,semEvents]) (.fin trivial h2) (fun b e=>by cases e) (Prod.Lex.left _ _ (by decide)))
      | fin e1 _=>exact e1.elim
    | r + 2,⟨_,hv,g',child,hg',hch,hsp,hwk,hnext⟩ =>
      obtain rfl:=hWv hv;have hWl:Wg < u.heap.size:=aw hm.hW;obtain ⟨hjr⟩:Nonempty (j + r + 1 = n):=by
       rcases S.wf with ⟨r',s,e,h⟩ | ⟨_,h1⟩
       ·cases e; exact ⟨h⟩
       ·rcases h1 with e | ⟨b,e⟩ | ⟨b,e⟩ | e | e | e | e <;> cases e
      have ej:n - (r + 1) = j:=by omega
      have hsz:u.heap.size = w.heap.size:=hm.msk.size.symm;have hrun':=runT_crowd_spawn (P:=P) (sl:=sl) (i:=0) h0 (show stepG P (0 == 0) gm w = _ from hsp u w hg hm.nv hm.msk);obtain ⟨ho,rfl,rfl,_⟩:=S.mode.open_inv trivial;have hwk':=hwk u hg hm.nv;rw [ej,hsz] at hwk';obtain ⟨trc,hTc⟩:=hwk'.tree;obtain ⟨x',hx1,hx2,hx3,hx4,hx6,hx5⟩:=WOK.mk hTc (.refl _) (spawnV h hm (by omega) fun a ha hs=>hKR _ (ha.imp id .inl) (hKS a hs)) ⟨_,_,S.wg⟩;have hcom':=h.spawn (a':=g') (x:={ g:=0,fn:=gm.frame.fn,pos:=gm.frame.place,act:=.go (base + j) }) (y:={ g:=base + j,fn:=child.frame.fn,pos:=gm.frame.place,act:=.start }) ⟨rfl,rfl⟩ ⟨rfl,rfl⟩ (by omega) hx1 hx2 hx3 hx6 hx5;obtain ⟨tr2,hT2⟩:=(hnext u hg hm.nv).tree;rw [hsz] at hT2;have ha':((gs.setIfInBounds 0 g').push child)[0]? = some g':=by
       have:=h.pos;rw [Array.getElem?_push_lt (by simp [h.size]; omega),← Array.getElem?_eq_getElem,Array.getElem?_setIfInBounds_self_of_lt (by rw [h.size]; omega)]
      have eV:Vc (j + 1) (upd (wds D) j x'.wd) = Vc j (wds D) + 1:=by
       simp only [Vc,sumTo,upd_same];rw [sumTo_upd_out (wds D) _ cnt (Nat.le_refl _)];simp [cnt,hx2]
      have ho':OpenSt (j + 1) (upd (wds D) j x'.wd):=fun i hi=>by
       by_cases e:i = j
       ·subst e; rw [upd_same,hx2]; simp
       ·rw [upd_ne (wds D) _ e]; exact ho i (by omega)
      have est:∀ tag',pend tag' = 0→((Vc j (wds D) + pend (dq [0,r,2] false):Nat):Int) * KK = ((Vc (j + 1) (upd (wds D) j x'.wd) + pend tag':Nat):Int) * KK:=fun tag' hp=>by rw [eV,hp]; simp [pend,dq]
      refine .inr ⟨_,_,(r + 1,(muL tr2 (upd D j x') (j + 1),(sumTo base q,if (false:Bool) then 0 else 1))),hrun',Prod.Lex.left _ _ (Nat.lt_succ_self _),_,w,sl,j + 1,upd D j x',q,ow,w.heap.size,rU r,false,tr2,r + 1,_,_,rfl,⟨?_,?_,?_,S.wg,?_,fun b e=>?_,S.rR⟩,rfl⟩
      ·have e0:((MemOp.ofEvents 0 gm.frame.fn gm.frame.place #[]).push { g:=0,fn:=gm.frame.fn,pos:=gm.frame.place,act:=MemAct.go gs.size }).push { g:=gs.size,fn:=child.frame.fn,pos:=gm.frame.place,act:=MemAct.start } = #[{ g:=0,fn:=gm.frame.fn,pos:=gm.frame.place,act:=.go (base + j) },{ g:=base + j,fn:=child.frame.fn,pos:=gm.frame.place,act:=.start }]:=by
        rw [h.size]; rfl
       have e1:gy (rU r) = 0:=by cases r <;> rfl
       rw [e1];have:=hcom';rw [← e0] at this;exact this
      ·refine ⟨g',_,dw u Wg (gh _),by simpa using ha',hg',hT2,.refl _,hm.dw _ h.ap S.rR,fun e=>by cases e⟩
      ·cases r with
       | zero=>exact .inr ⟨by omega,.inl rfl⟩
       | succ r=>exact .inl ⟨r,5,rfl,by omega⟩
      ·rw [wx];cases r with
       | zero=>rw [est .kd rfl]; exact .opn trivial ho' (by simp [dq,rU])
       | succ r=>rw [est (.sp r 5) rfl]; exact .opn trivial ho' (by simp [dq,rU])
      ·cases r <;> cases e
   ·have hb:b1 = false:=by
     cases b1 with
     | false=>rfl
     | true=>exact (hb1 rfl).elim
    have run:∀ {tr':Tr} {g':Goroutine} {v':World},RunT (XB P ty Wg n) P true (pmM fr) fr (TM P ty Wg C n fv tv Fin rem fr) tr' g' v'→g'.status = .running:=fun hT'=>by
     rcases hT'.cases with ⟨_,hs⟩ | ⟨hr,_⟩
     ·match rem,hs with
      | 0,hs=>exact hs.1
      | 1,.inl hs=>exact hs.1
      | 1,.inr hs=>exact hs.2.1.1
      | r + 2,hs=>exact hs.1
     ·exact hr
    rcases hst u w ⟨hg,hm.nv,hm.msk,l,hm.hW,fitsB hn S⟩ (fun _=>trivial) with ⟨g',v',tr',hsub,hp,hT'⟩ | ⟨_,g',l1,l',w',es,hl,hgo,hg',hR,tr',hsub,hT'⟩
    ·exact .inr (mainP S h0 hm hp (run hT') hT' hsub)
    ·obtain rfl:=xl hm.hW hl;exact .inr (mainK hn S h0 hm hgo hg' hR hT' hsub)
theorem someB (S:iv P ty Wg C n fv tv Fin Shun base gs w t j D q ow fr l bl tr rem st sm):∃ (i:Nat) (g:Goroutine),gs[i]? = some g ∧ g.status = .running:=by
 obtain ⟨gm,v,u,e0,e1,hT,hg,hm,hb⟩:=S.main;cases bl with
 | false=>exact ⟨0,gm,by simpa using e0,e1⟩
 | true =>
   obtain ⟨rfl,_⟩:=hb rfl;have run:∀ i,i < j→(wds D i).stage ≠ 1→∃ (i:Nat) (g:Goroutine),gs[i]? = some g ∧ g.status = .running:=fun i hi h1=>by
    obtain ⟨g,hg,hw⟩:=S.com.wk i hi;refine ⟨_,g,hg,?_⟩
    rcases hw with ⟨_,u1,R⟩ | ⟨_,_,hL,_⟩
    ·exact R.running
    ·rcases hL with ⟨_,_,hG⟩ | ⟨_,hW⟩
     ·exact Goes.running (fun _ _ x=>x.1) w (RW.refl w) hG
     ·exact hW.running_of h1
   have hmode:ConcN.Mode j (wds D) .blk st sm:=S.mode;cases hmode with
   | opn h1 _ _=>exact h1.elim
   | reg _ _ h3 =>
     obtain ⟨i,hi,h5⟩:=exists_counted h3;exact run i hi (by omega)
   | last L _ h2 h3 _=>exact run L h2 (by omega)
   | fin h1 _=>exact h1.elim
theorem awakeB (S:iv P ty Wg C n fv tv Fin Shun base gs w t j D q ow fr l bl tr rem st sm):∀ g ∈ gs,awake g:=by
 intro g hg;obtain ⟨i,hi⟩:=Array.mem_iff_getElem?.1 hg;have hp:=S.com.pos
 by_cases h0:i = 0
 ·subst h0;obtain ⟨gm,v,u,e0,e1,_⟩:=S.main;rw [hi] at e0;intro tm;rw [Option.some.inj e0];cases bl <;> simp [e1]
 ·by_cases hb:i < base
  ·exact awake_of ((S.com.old i g (by omega) hb hi).status.elim .inl fun x=>.inr (.inr x))
  ·have hlt:=(Array.getElem?_eq_some_iff.1 hi).1;rw [S.com.size] at hlt;obtain ⟨z,hz,hw⟩:=S.com.wk (i - base) (by omega);rw [show base + (i - base) = i by omega,hi] at hz;obtain rfl:=Option.some.inj hz;exact awake_of (hw.status.elim .inl fun x=>.inr (.inr x))
theorem iv.at (S:iv P ty Wg C n fv tv Fin Shun base gs w t j D q ow fr l bl tr rem st sm) (d:Nat):iv P ty Wg C n fv tv Fin Shun base gs (w.at d) t j D q ow fr l bl tr rem st sm:=by
 refine ⟨S.com.at d,?_,S.wf,S.wg,S.mode,S.bound,S.rR⟩;obtain ⟨gm,v,u,e0,e1,hT,hg,hm,hb⟩:=S.main;exact ⟨gm,v,u.at d,e0,e1,hT,hg.trans (bo.at u d),hm.lib (w':=w.at d) ⟨rfl,rfl,rfl,rfl,fun _ _ _=>rfl,.refl _ _⟩,hb⟩
theorem stepB (hn:n < 2147483648) (hKS:∀ a,Shun (.cell a)→K a.block) (hKR:∀ b,(Row C b ∨ b = Duo.R ∨ b = Wg)→¬ K b) (μ:Mu) (m:Machine) (t:Trace) (hI:oh P ty Wg C n fv tv Fin Shun base μ m t) :
 (∃ m' ops,stepT P m = (.next m',ops) ∧ wu P Wg C n Shun tv K Fin m' (t ++ ops)) ∨ ∃ m' ops μ',stepT P m = (.next m',ops) ∧ rMu μ' μ ∧ oh P ty Wg C n fv tv Fin Shun base μ' m' (t ++ ops):=by
 obtain ⟨gs,w,sl,j,D,q,ow,fr,l,bl,tr,rem,st,sm,rfl,S,rfl⟩:=hI;obtain ⟨i,g,d,sl',hi,hg,hst⟩:=crowd_pick (P:=P) (w:=w) (sl:=sl) (awakeB S) (someB S);rw [hst];have S':=S.at d;have hp:=S.com.pos
 by_cases h0:i = 0
 ·subst h0;exact stepMain hn hKS hKR S' hi hg
 ·refine .inr ?_
  by_cases hb:i < base
  ·have hq:=S'.com.old i g (by omega) hb hi;have hne:(i == 0) = false:=by simp; omega
   cases hqi:q i with
   | zero=>rw [hqi] at hq; rw [hq.1] at hg; cases hg
   | succ k =>
     rw [hqi] at hq
     rcases hq with ⟨hf,_⟩ | ⟨_,g',es,hm,hstp,hq'⟩
     ·rw [hf] at hg; cases hg
     have hrunT:=runT_crowd_go (P:=P) (sl:=sl') (i:=i) hi (by rw [hne]; exact hstp (w.at d));have hsum:sumTo base (upd q i k) + (k + 1) = sumTo base q + k:=by
      have:=sumTo_upd q k id hb
      simpa [hqi] using this
     obtain ⟨bl',hM,hbl,_⟩:=S'.main.woken (gs':=(gs.map (woken P g g' (w.at d))).setIfInBounds i g') (g:=g) (g':=g') (ow':=ow) (fun u M=>⟨u,.refl u,M⟩) (fun x hx=>by rw [get_map_set _ _ _ _ h0,hx]; rfl);exact ⟨_,_,(rem,(muL tr D j,(sumTo base (upd q i k),if bl' then 0 else 1))),hrunT,Prod.Lex.right _ (Prod.Lex.right _ (Prod.Lex.left _ _ (by omega))),_,w.at d,sl',j,D,upd q i k,ow,fr,l,bl',tr,rem,st,sm,rfl,
      ⟨S'.com.slip (by omega) hb hi hq' hm,hM,S'.wf,S'.wg,S'.mode.retag (tag_re hbl S'.blk4),S'.bound,S'.rR⟩,rfl⟩
  ·have hlt:=(Array.getElem?_eq_some_iff.1 hi).1;rw [S.com.size] at hlt;have hi':gs[base + (i - base)]? = some g:=by rw [show base + (i - base) = i by omega]; exact hi
   obtain ⟨z,hz,hw⟩:=S'.com.wk (i - base) (by omega);rw [hi'] at hz;obtain rfl:=Option.some.inj hz;have ei:i = base + (i - base):=by omega
   rw [ei]
   rcases hw with ⟨h1,u1,R⟩ | ⟨h1,h2,hL,hV⟩
   ·exact stepRun S' (by omega) hi' h1 R
   ·exact stepLib S' hn (by omega) hi' h1 h2 hL hV hg
theorem runB (hn:n < 2147483648) (hKS:∀ a,Shun (.cell a)→K a.block) (hKR:∀ b,(Row C b ∨ b = Duo.R ∨ b = Wg)→¬ K b):∀ (μ:Mu) (m:Machine) (t:Trace),oh P ty Wg C n fv tv Fin Shun base μ m t →
 ∃ N m' t',runNT P N m t = (.next m',t') ∧ wu P Wg C n Shun tv K Fin m' t':=by
 intro μ
 induction μ using rMu_wf.induction with
 | _ μ ih =>
   intro m t hI
   rcases stepB hn hKS hKR μ m t hI with ⟨m',ops,h1,h2⟩ | ⟨m',ops,μ',h1,h2,h3⟩
   ·exact ⟨1,m',t ++ ops,by simp [runNT,h1],h2⟩
   ·obtain ⟨N,m2,t2,h4,h5⟩:=ih μ' h2 m' (t ++ ops) h3;exact ⟨N + 1,m2,t2,by simp only [runNT,h1]; exact h4,h5⟩
end
end Go.Gx
namespace Go.Gx
open Go Go.Conc Go.ConcN
open Go.ConcR (KK wgBlock WgAt stA smA rd wr mk Payload DC0 Bk g_of_ofEvents)
section
variable [Payload] [Duo] [Bad] {P:Program} {ty:TypeId} {Wg C n:Nat} {fv tv:Value} {Fin:Goroutine→World→Prop} {Shun:Loc→Prop}
 {K:Nat→Prop} {gs:Array Goroutine} {w u:World} {t:Trace} {q:Nat→Nat} {g:Goroutine} {sl:Option (Nat × Nat)}
def jC (u:World) (Wg C:Nat) (l:List Nat):World:=dw (dw (dw (dw u Wg (gh l)) C dummy) Duo.C2 dummy) Duo.R dummy
omit [Payload] [Bad] in
theorem tP {l:List Nat}:(jC u Wg C l).heap.size = u.heap.size:=by simp only [jC,di]
omit [Payload] [Bad] in
theorem qH {l:List Nat} (hW:Wg < u.heap.size) (hl:∀ b,Row C b ∨ b = Duo.R→b < u.heap.size) (A:Apart Wg C) (b:Nat) :
 (Row C b ∨ b = Duo.R→(jC u Wg C l).heap[b]? = some dummy) ∧ (b = Wg→(jC u Wg C l).heap[b]? = some (gh l)) ∧ (¬ (Row C b ∨ b = Duo.R)→b ≠ Wg→(jC u Wg C l).heap[b]? = u.heap[b]?):=by
 refine ⟨fun hb=>?_,fun hb=>?_,fun hb hw=>?_⟩
 ·unfold jC
  by_cases e:b = Duo.R
  ·rw [e]; exact cR (by simp only [di]; exact hl _ (.inr rfl))
  ·rw [dJ (Ne.symm e)]
   by_cases e2:b = Duo.C2
   ·rw [e2]; exact cR (by simp only [di]; exact hl _ (.inl (.inr rfl)))
   ·rw [dJ (Ne.symm e2)];obtain rfl:b = C:=(hb.resolve_right e).resolve_right e2;exact cR (by simp only [di]; exact hl _ (.inl (.inl rfl)))
 ·subst hb;unfold jC;rw [dJ A.rw,dJ fun e=>A.cw (.inr e.symm),dJ fun e=>A.cw (.inl e.symm)];exact cR hW
 ·unfold jC;rw [dJ fun e=>hb (.inr e.symm),dJ fun e=>hb (.inl (.inr e.symm)),dJ fun e=>hb (.inl (.inl e.symm)),dJ (Ne.symm hw)]
theorem hide2_vis {l:List Nat} (hW:Wg < u.heap.size) (hl:∀ b,Row C b ∨ b = Duo.R→b < u.heap.size) (A:Apart Wg C) {b:Nat} (hv:Vis (jC u Wg C l) b):¬ (Row C b ∨ b = Duo.R) ∧ b ≠ Wg ∧ Vis u b:=by
 obtain ⟨h1,h2,h3⟩:=qH (l:=l) hW hl A b;have e1:¬ (Row C b ∨ b = Duo.R):=fun e=>by
  have:=hv _ (h1 e);simp [isP,dummy] at this
 have e2:b ≠ Wg:=fun e=>by
  have:=hv _ (h2 e);rw [gM (gh_H l)] at this; cases this
 exact ⟨e1,e2,fun o ho=>hv o (by rw [h3 e1 e2]; exact ho)⟩
theorem phaseB {σ0:Nat} (hn:n < 2147483648) (hn1:0 < n) (hB:cu P Shun t gs q g u w) (hr:g.status = .running) (hW:u.heap[Wg]? = some (wgBlock ty 0 0)) (hC:u.heap[C]? = some (.cells (Array.replicate n fv) Payload.ety)) (h2:u.heap[Duo.C2]? = some (.cells (Array.replicate n Duo.fv2) Duo.ty2 (0,0)))
 (hR:u.heap[Duo.R]? = some (.cells (Duo.c0 ++ [Value.int .u64 (σ0:Nat)]).toArray Duo.tyR (0,0))) (hJ:Duo.J σ0 (fun _=>Duo.ini)) (A:Apart Wg C) (hC2:C ≠ Duo.C2)
 (hF:∀ l,ShN Wg l→mr t l) (hKS:∀ a,Shun (.cell a)→K a.block) (hKR:∀ b,(Row C b ∨ b = Duo.R ∨ b = Wg)→¬ K b)
 (hT:cQ (XB P ty Wg n) P true (pmM u.heap.size) u.heap.size (TM P ty Wg C n fv tv Fin (n - 1 + 2) u.heap.size) g (jC u Wg C [0,n - 1,5])) :
 ∃ N m' t',runNT P N (crowd gs w sl) t = (.next m',t') ∧ wu P Wg C n Shun tv K Fin m' t':=by
 have hWl:=aw hW;have hl:∀ b,Row C b ∨ b = Duo.R→b < u.heap.size:=fun b hb=>by
  rcases hb with (rfl | rfl) | rfl
  ·exact aw hC
  ·exact aw h2
  ·exact aw hR
 have hws:=hB.msk.size;have vz:∀ {b:Nat} {c:Array Value} {e:TypeId} {z:Nat × Nat},u.heap[b]? = some (.cells c e z)→w.heap[b]? = some (.cells c e z):=fun h=>by
  rw [hB.msk.vis _ fun o ho=>by rw [h] at ho; cases ho; rfl]; exact h
 have wW:w.heap[Wg]? = some (wgBlock ty 0 0):=vz hW;have wC:=vz hC;have w2:=vz h2;have wR:=vz hR;have sv:∀ a,(Row C a.block ∨ a.block = Duo.R ∨ a.block = Wg)→¬ Shun (.cell a):=fun a ha hs=>hKR _ ha (hKS a hs)
 have get:=qH (l:=[0,n - 1,5]) hWl hl A;have ge:∀ b,¬ (Row C b ∨ b = Duo.R)→b ≠ Wg→(jC u Wg C [0,n - 1,5]).heap[b]? = u.heap[b]?:=fun b=>(get b).2.2
 have iR:∀ (b k:Nat) z,(jC u Wg C [0,n - 1,5]).heap[b]? ≠ some (slot k z):=fun b k z hz=>by
  by_cases e1:Row C b ∨ b = Duo.R
  ·rw [(get b).1 e1] at hz; simp [slot,dummy] at hz
  ·by_cases e2:b = Wg
   ·rw [(get b).2.1 e2] at hz;have:=gh_H [0,n - 1,5];rw [Option.some.inj hz] at this;simp [isH,slot] at this
   ·rw [ge b e1 e2] at hz; exact hB.iR b k z hz
 have kD:pe (jC u Wg C [0,n - 1,5]):=fun b k o z ho hr=>by
  by_cases e1:Row C b ∨ b = Duo.R
  ·rw [(get b).1 e1] at ho;rw [← Option.some.inj ho] at hr;exact iC hr
  ·by_cases e2:b = Wg
   ·rw [(get b).2.1 e2] at ho;rw [← Option.some.inj ho] at hr;exact iC hr
   ·rw [ge b e1 e2] at ho; exact hB.kD b k o z ho hr
 have hm:eL Wg C Shun (fun _=>0) [0,n - 1,5] w (jC u Wg C [0,n - 1,5]):=by
  refine ⟨j1 (j1 (j1 (j1 hB.nv rfl) rfl) rfl) rfl,⟨by rw [tP]; exact hws,hB.msk.tape,hB.msk.drawn,hB.msk.os,hB.msk.output,fun b hv=>?_,fun b k z hz=>absurd hz (iR b k z),fun b k o z ho hr=>absurd hr (kD b k o z ho)⟩,fun _ _ _=>rfl,iR,kD,fun b hb=>⟨dummy,(get b).1 hb,rfl⟩,(get Wg).2.1 rfl,fun l hl=>?_⟩
  ·obtain ⟨h1,h2,h3⟩:=hide2_vis hWl hl A hv;rw [ge b h1 h2];exact hB.msk.vis b h3
  ·obtain ⟨a,o,h1,h2,h3,h4⟩:=hB.hid l hl;subst h1;exact ⟨a,o,rfl,by rw [ge a.block (fun e=>sv a (e.imp id .inl) hl) (fun e=>sv a (.inr (.inr e)) hl)]; exact h2,h3,h4⟩
 have hsz:gs.size ≠ 0:=fun e=>by
  have:=(Array.getElem?_eq_some_iff.1 hB.at0).1;omega
 have cells:∀ i,i < n→Has C i fv w:=fun i hi=>by simp [Has,World.cell?,wC,hi]
 have hcom:lB P ty Wg C n fv tv Shun gs.size 0 gs w t (fun _=>⟨.leaf,false,⟨0,0,0⟩,0,[]⟩) 0 q (fun _=>0) u.heap.size:=by
  refine ⟨by omega,rfl,fun i x h0 _ hx=>hB.leave.old i x h0 hx,fun i hi=>by omega,?_,hB.norel,hB.past.hears,fun i hi=>by omega,fun i hi=>by omega,fun i hi=>by omega,fun i _ hi=>cells i hi,⟨_,wC,by simp⟩,fun i _ hi=>by simp [World.cell?,w2,hi],⟨_,w2,by simp⟩,
   ⟨σ0,wR,by
    have e:gms 0 (fun _=>(⟨.leaf,false,⟨0,0,0⟩,0,[]⟩:WX)) = fun _=>Duo.ini:=funext fun i=>by unfold gms; rw [if_neg (by omega)]
    rw [e]; exact hJ⟩,rfl,fun _=>Nat.le_refl _,fun _ _=>rfl,fun i hi=>by omega,by omega,A,hC2,fun b hb=>by rw [hws]; exact hl b hb,by omega,hB.kept⟩
  refine CTP.ofPast hB.past (by omega) hB.few hF (fun l hl=>?_) (fun l hl=>?_) (fun l hl=>?_)
  ·rcases hl with ⟨b,h1,_,_,_,_,_,h5⟩ | ⟨b,k,hb,_,rfl⟩
   ·exact ⟨by cases l <;> first | rfl | (simp [iu] at h1),h5⟩
   ·exact ⟨rfl,sv _ (.inl hb)⟩
  ·obtain ⟨b,h1,_,_,_,h5,_⟩:=hl;exact ⟨by cases l <;> first | rfl | (simp [iu] at h1),h5⟩
  ·have e:l = .cell wdA:=hl;subst e;exact ⟨rfl,sv _ (.inr (.inl rfl))⟩
 obtain ⟨tr,hT'⟩:=hT.tree;have hmode:ConcN.Mode 0 (wds (fun _=>(⟨.leaf,false,⟨0,0,0⟩,0,[]⟩:WX))) (dq [0,n - 1,5] false) 0 0:=by
  have:=ConcN.Mode.opn (j:=0) (D:=wds (fun _=>(⟨.leaf,false,⟨0,0,0⟩,0,[]⟩:WX))) (tag:=.sp (n - 1) 5) trivial (fun i hi=>by omega) (fun vs e=>by cases e)
  simpa [Vc,sumTo,pend,dq] using this
 exact runB hn hKS hKR _ _ _ ⟨gs,w,sl,0,fun _=>⟨.leaf,false,⟨0,0,0⟩,0,[]⟩,q,fun _=>0,u.heap.size,[0,n - 1,5],false,tr,n - 1 + 2,0,0,rfl,
  ⟨hcom,⟨g,_,_,by simpa using hB.at0,hr,hT',.refl _,hm,(fun e=>by cases e)⟩,.inl ⟨n - 1,5,rfl,by omega⟩,wW,hmode,(fun b e=>by cases e),fun a e=>sv a (.inr (.inr e))⟩,rfl⟩
end
end Go.Gx
namespace Go.Gx
open Go Go.Conc Go.ConcN
open Go.ConcR (KK wgBlock WgAt stA smA rd wr mk Payload DC0 Bk g_of_ofEvents)
theorem Met.here {X:Ext} {v v1 w:World} (m:Met X v v1 w):Met X v1 v1 w:=⟨.refl _,m.nv,m.msk,m.fits⟩
section
variable (P:Program) (ty:TypeId) (Wg n:Nat) (pm:Nat→Prop) (fr:Nat) (T:Goroutine→World→Prop) (B:World→Prop)
def RZ (w w1:World):Prop:=WgLive ty Wg w→WgLive ty Wg w1
def RT (_ _:World):Prop:=True
def TE (l:List Nat) (g:Goroutine):Prop:=g.status = .running ∧ ∀ v,v.heap[Wg]? = some (gh l)→B v→cQ (XB P ty Wg n) P true pm fr T g v
def StopK (l:List Nat) (g:Goroutine) (w:World):Prop :=
 g.status = .running ∧ (FitsL ty Wg l w→∃ l' g' w' es,stepG P true g w = .go g' w' es ∧ Rel ty Wg n l l' w w' es ∧ TE P ty Wg n pm fr T B l' g')
def StopB (l:List Nat) (g:Goroutine) (w:World):Prop:=StopK P ty Wg n pm fr T B l g w ∨ TE P ty Wg n pm fr T B l g
def StopC (g:Goroutine) (_:World):Prop:=g.status = .running ∧ ∀ v,B v→cQ X0 P true pm fr T g v
end
section
variable {P:Program} {ty:TypeId} {Wg n:Nat} {pm:Nat→Prop} {fr:Nat} {T:Goroutine→World→Prop} {B:World→Prop}
theorem StopB.st {l:List Nat} {g:Goroutine} {w:World} (h:StopB P ty Wg n pm fr T B l g w):g.status = .running:=h.elim (·.1) (·.1)
theorem rz_trans (a b c:World) (h:RZ ty Wg a b) (k:RZ ty Wg b c):RZ ty Wg a c:=k ∘ h
theorem lv {w w1:World} (h:WgLive ty Wg w) (r:RZ ty Wg w w1):WgLive ty Wg w1:=r h
theorem qF (ty:TypeId) (Wg:Nat):∃ w:World,WgLive ty Wg w:=by
 refine ⟨{ (default:World) with heap:=(Array.replicate Wg dummy).push (wgBlock ty 0 0) },0,0,?_⟩;show ((Array.replicate Wg dummy).push (wgBlock ty 0 0))[Wg]? = _;have h:=Array.getElem?_push_size (xs:=Array.replicate Wg dummy) (x:=wgBlock ty 0 0);rw [Array.size_replicate] at h;exact h
theorem libX (hB:∀ v v1,B v→bo v v1→B v1) (hBs:∀ v l,B v→B (dw v Wg (gh l))) {l:List Nat}:∀ (m:Nat) (g:Goroutine) (v:World),v.heap[Wg]? = some (gh l)→B v→(∀ w,WgLive ty Wg w→Goes P true (RZ ty Wg) DC0 (StopB P ty Wg n pm fr T B l) m g w) →
 cQ (XB P ty Wg n) P true pm fr T g v
 | 0,g,v,hv,hb,h=>by
   by_cases ht:TE P ty Wg n pm fr T B l g
   ·exact ht.2 v hv hb
   ·obtain ⟨w0,hw0⟩:=qF ty Wg;refine .gen (h w0 hw0 w0 id).st false (fun e=>by cases e) fun v1 w mt _=>?_
    obtain ⟨l1,hl1,hf⟩:=mt.fits;have hv1:v1.heap[Wg]? = some (gh l):=by rw [mt.grow.old _ (aw hv)]; exact hv
    obtain rfl:=xl hv1 hl1
    rcases h w hf.live w id with hs | hs
    ·obtain ⟨l',g',w',es,h1,h2,h3⟩:=hs.2 hf;exact .inr ⟨rfl,g',l,l',w',es,hv1,h1,h3.1,h2,h3.2 _ (cR (aw hv1)) (hBs _ _ (hB _ _ hb mt.grow))⟩
    ·exact absurd hs ht
 | m + 1,g,v,hv,hb,h=>by
   by_cases ht:TE P ty Wg n pm fr T B l g
   ·exact ht.2 v hv hb
   ·obtain ⟨w0,hw0⟩:=qF ty Wg;have hr:g.status = .running:=by
     rcases h w0 hw0 with h1 | ⟨h1,_⟩
     ·exact (h1 w0 id).st
     ·exact h1
    refine .gen hr false (fun e=>by cases e) fun v1 w mt _=>?_
    obtain ⟨l1,hl1,hf⟩:=mt.fits;have hv1:v1.heap[Wg]? = some (gh l):=by rw [mt.grow.old _ (aw hv)]; exact hv
    obtain rfl:=xl hv1 hl1
    rcases h w hf.live with h1 | ⟨_,h1⟩
    ·rcases h1 w id with hs | hs
     ·obtain ⟨l',g',w',es,h1,h2,h3⟩:=hs.2 hf;exact .inr ⟨rfl,g',l,l',w',es,hv1,h1,h3.1,h2,h3.2 _ (cR (aw hv1)) (hBs _ _ (hB _ _ hb mt.grow))⟩
     ·exact absurd hs ht
    ·have h2:=h1 w id;cases hst:stepG P true g w with
     | go g' w' es =>
       rw [hst] at h2;obtain ⟨⟨rfl,rfl⟩,hG⟩:=h2;exact .inl ⟨g',v1,⟨w',#[],hst,.refl _ _,.refl mt.msk,by simp⟩,libX hB hBs m g' v1 hv1 (hB _ _ hb mt.grow) fun w2 hw2=>Goes.rely rz_trans hG (fun _=>hw2)⟩
     | _=>rw [hst] at h2; exact h2.elim
theorem TE.lib (hB:∀ v v1,B v→bo v v1→B v1) (hBs:∀ v l,B v→B (dw v Wg (gh l))) {l:List Nat} {g:Goroutine} (m:Nat) (h:∀ w,WgLive ty Wg w→Goes P true (RZ ty Wg) DC0 (StopB P ty Wg n pm fr T B l) m g w):TE P ty Wg n pm fr T B l g:=by
 obtain ⟨w0,hw0⟩:=qF ty Wg;exact ⟨Goes.running (fun _ _ x=>x.st) w0 (fun x=>x) (h w0 hw0),fun v hv hb=>libX hB hBs m g v hv hb h⟩
theorem lib0 (hB:∀ v v1,B v→bo v v1→B v1):∀ (m:Nat) (g:Goroutine) (v:World),B v→(∀ w,Goes P true RT DC0 (StopC P pm fr T B) m g w)→cQ X0 P true pm fr T g v
 | 0,g,v,hb,h=>(h (default:World) (default:World) trivial).2 v hb
 | m + 1,g,v,hb,h=>by
   by_cases ht:StopC P pm fr T B g (default:World)
   ·exact ht.2 v hb
   ·have hr:g.status = .running:=by
     rcases h default with h1 | ⟨h1,_⟩
     ·exact absurd (h1 default trivial) ht
     ·exact h1
    refine .go hr fun v1 w mt=>?_
    rcases h w with h1 | ⟨_,h1⟩
    ·exact absurd (h1 w trivial) ht
    ·have h2:=h1 w trivial;cases hst:stepG P true g w with
     | go g' w' es =>
       rw [hst] at h2;obtain ⟨⟨rfl,rfl⟩,hG⟩:=h2;exact ⟨g',v1,⟨w',#[],hst,.refl _ _,.refl mt.msk,by simp⟩,lib0 hB m g' v1 (hB _ _ hb mt.grow) fun w2=>Goes.rely (fun _ _ _ _ _=>trivial) hG trivial⟩
     | _=>rw [hst] at h2; exact h2.elim
end
end Go.Gx
namespace Go.Gx
open Go Go.Conc Go.ConcN Go.RowKit Go.Conc.Lib Go.ConcR.Gen Go.ConcN.Gen
open Go.ConcR (KK wgBlock WgAt stA smA rd wr mk Payload DC0)
section
variable [Payload] {L:WgLink} {P:Program} {Wg C n:Nat} {pm:Nat→Prop} {fr:Nat} {T:Goroutine→World→Prop} {B:World→Prop}
 {b₀:Frame} {a₀:Act} {ops₀:Array Oper} {i₀:Nat} {rest₀:List Nat} {k₀:List Item} {cs:List Frame}
def StK (P:Program) (g:Goroutine) (w:World):Prop:=g.status = .running ∧ ∃ g',stepG P false g w = .go g' w #[mk .disable]
def StR (P:Program) (R:World→World→Prop) (Wg:Nat) (g:Goroutine) (w:World):Prop:=g.status = .running ∧ ∃ g',stepG P false g w = .go g' w #[mk (.releaseMerge (stA Wg))] ∧ ∃ m,Goes P false R DC0 (StK P) m g' w
section
variable {ty:TypeId} {i:Nat} {v:Value}
theorem st_clash {k:Nat}:∀ (m m':Nat) (g:Goroutine) (w:World),Goes P false (RW ty Wg C n 0 i) DC0 (StK P) m g w→Goes P false (RW ty Wg C n 0 i) (DWs Wg O0 O0 C n k) (AtR0 P ty Wg C n 0 k v) m' g w→False:=by
 have fin:∀ (m':Nat) (g:Goroutine) (w:World),StK P g w→Goes P false (RW ty Wg C n 0 i) (DWs Wg O0 O0 C n k) (AtR0 P ty Wg C n 0 k v) m' g w→False:=by
  rintro m' g w ⟨_,g',h1⟩ h2;have stp:AtR0 P ty Wg C n 0 k v g w→False:=fun ⟨_,_,g2,h3,_⟩=>by
   rw [h1] at h3;simp [mk] at h3
  cases m' with
  | zero=>exact stp (h2 w (RW.refl w))
  | succ m' =>
    rcases h2 with h2 | ⟨_,h2⟩
    ·exact stp (h2 w (RW.refl w))
    ·have h3:=h2 w (RW.refl w);rw [h1] at h3;exact ((h3.1.2 (mk .disable) (by simp)).2.1 rfl).elim
 intro m
 induction m with
 | zero=>exact fun m' g w h1 h2=>fin m' g w (h1 w (RW.refl w)) h2
 | succ m ih =>
   rintro m' g w (h1 | ⟨_,h1⟩) h2
   ·exact fin m' g w (h1 w (RW.refl w)) h2
   ·have h3:=h1 w (RW.refl w);cases hst:stepG P false g w with
    | go g' w' es =>
      rw [hst] at h3;obtain ⟨⟨rfl,rfl⟩,h3⟩:=h3;have stp:AtR0 P ty Wg C n 0 k v g w'→False:=fun ⟨_,_,g2,h4,_⟩=>by
       rw [hst] at h4;simp at h4
      cases m' with
      | zero=>exact stp (h2 w' (RW.refl w'))
      | succ m' =>
        rcases h2 with h2 | ⟨_,h2⟩
        ·exact stp (h2 w' (RW.refl w'))
        ·have h4:=h2 w' (RW.refl w');rw [hst] at h4;exact ih m' g' w' h3 h4.2
    | _=>rw [hst] at h3; exact h3.elim
theorem st_both {k:Nat}:∀ (m m':Nat) (g:Goroutine) (w:World),Goes P false (RW ty Wg C n 0 i) DC0 (StR P (RW ty Wg C n 0 i) Wg) m g w→Goes P false (RW ty Wg C n 0 i) (DWs Wg O0 O0 C n k) (AtR0 P ty Wg C n 0 k v) m' g w→Goes P false (RW ty Wg C n 0 i) DC0 (AtR0 P ty Wg C n 0 k v) m g w:=by
 have tr:∀ a b c,RW ty Wg C n 0 i a b→RW ty Wg C n 0 i b c→RW ty Wg C n 0 i a c:=fun _ _ _ h1 h2=>h1.trans h2
 have fin:∀ (m':Nat) (g:Goroutine) (w:World),(∀ w1,RW ty Wg C n 0 i w w1→StR P (RW ty Wg C n 0 i) Wg g w1)→Goes P false (RW ty Wg C n 0 i) (DWs Wg O0 O0 C n k) (AtR0 P ty Wg C n 0 k v) m' g w→∀ w1,RW ty Wg C n 0 i w w1→AtR0 P ty Wg C n 0 k v g w1:=by
  intro m' g w h1 h2;cases m' with
  | zero=>exact h2
  | succ m' =>
    rcases h2 with h2 | ⟨_,h2⟩
    ·exact h2
    ·obtain ⟨_,g',h3,m2,h4⟩:=h1 w (RW.refl w);have h5:=h2 w (RW.refl w);rw [h3] at h5;exact (st_clash _ _ _ _ h4 h5.2).elim
 intro m
 induction m with
 | zero=>exact fun m' g w h1 h2=>fin m' g w h1 h2
 | succ m ih =>
   rintro m' g w (h1 | ⟨hr,h1⟩) h2
   ·exact .inl (fin m' g w h1 h2)
   ·cases m' with
    | zero=>exact .inl h2
    | succ m' =>
      rcases h2 with h2 | ⟨_,h2⟩
      ·exact .inl h2
      ·refine .inr ⟨hr,fun w1 hw1=>?_⟩;have h3:=h1 w1 hw1;have h4:=h2 w1 hw1;cases hst:stepG P false g w1 with
       | go g' w' es =>
         rw [hst] at h3 h4;exact ⟨h3.1,ih m' g' w' h3.2 h4.2⟩
       | _=>rw [hst] at h3; exact h3.elim
theorem rwl {ty:TypeId} {i:Nat} {w w1:World} (h:WgLive ty Wg w) (r:RW ty Wg C n 0 i w w1):WgLive ty Wg w1:=r.live h
end
theorem doneX (H:WgLib P L) {i:Nat} {val:Value} {c:Frame} {qt:Nat} (hcm:c.mode = .returning) (hT:QuitsD P qt 0 (G c cs)) (w:World) (hl:WgLive L.tWg Wg w) (hh:Has C i val w) :
 Goes P false (RW L.tWg Wg C n 0 (i + 1 - 1)) DC0 (AtR0 P L.tWg Wg C n 0 (i + 1) val) 23 (G ((baseD L.done).at ⟨#[.pointer (some ⟨Wg,0,none⟩),undef,undef,undef],[]⟩ [.code (body_done L)]) (c :: cs)) w:=by
 refine st_both 23 23 _ w ?_ (doneN H hcm hT w ⟨hl,hh⟩)
 lib_facts
 have hF:=hl;simp only [body_done,doneFn,Option.getD_some]
 u_reg rwl hF
 u_op rwl hF
 u_in rwl hF
 refine goes_call rfl rfl (by k_ne) rfl H.f_add (nm_add L) rfl ⟨by u_nil,?_⟩
 walk_nrmf addFn
 u_c stepG_seq rwl hF
 u_cond true rwl hF
 u_c stepG_seq rwl hF
 u_c stepG_seq rwl hF
 u_reg rwl hF
 u_op rwl hF
 u_op rwl hF
 u_c stepG_region_end rwl hF
 u_cond true rwl hF
 u_reg rwl hF
 u_op rwl hF
 u_conv H.underlying_tWgP H.room_tWg (WgLive.cell0 hF).choose_spec rwl hF
 refine Goes.stop (fun w₁ h₁=>?_);replace hF:=rwl hF h₁;clear h₁;refine ⟨rfl,_,stepG_markAt .releaseMerge (by simp) rfl rfl (by k_ne) rfl H.f_relMerge (x_relMerge_n L) (x_relMerge_b L) (x_relMerge_x L) (x_relMerge_f L) (by simp [Act.eval,stA]),10,?_⟩
 walk_nrm
 u_c stepG_region_end rwl hF
 u_c stepG_seq rwl hF
 u_reg rwl hF
 exact Goes.stop (fun w₂ h₂=>⟨rfl,_,stepG_mark0 .disable (by simp) rfl rfl (by k_ne) rfl H.f_disable (x_disable_n L) (x_disable_b L) (x_disable_x L) (x_disable_f L)⟩)
end
end Go.Gx
namespace Go.Gx
open Go Go.Conc Go.ConcN
open Go.ConcR (KK wgBlock WgAt stA smA rd wr mk Payload DC0 Bk g_of_ofEvents)
section
variable {X:Ext} {P:Program} {main:Bool} {pm:Nat→Prop} {fr:Nat} {T:Goroutine→World→Prop} {b:Frame} {a:Act} {k:List Item} {cs:List Frame} {v:World} {ops:Array Oper} {i:Nat} {rest:List Nat} {o:Oper}
theorem rOp (hk:b.kind ≠ .early) (ho:ops[i]? = some o) (hg:o.guard = none) (hd:eK o.op = false)
 (h:∀ v1,bo v v1→a9 v1→(execOp a.eval o).wpS P pm fr (fun n v'=>(∃ x,n = .value x ∧ cQ X P main pm fr T (G (b.atR (a.put o.dst x) (.inRegion ops rest :: k)) cs) v') ∨ (n = .skip ∧ cQ X P main pm fr T (G (b.atR (a.put o.dst undef) (.inRegion ops rest :: k)) cs) v')) v1) :
 cQ X P main pm fr T (G (b.atR a (.inRegion ops (i :: rest) :: k)) cs) v:=.go rfl fun v1 w m=>by
 have hk':((b.atR a (.inRegion ops (i :: rest) :: k)).kind == CallKind.early) = false:=by simpa [Frame.atR] using hk
 have hfin:∀ x,(b.atR a (.inRegion ops (i :: rest) :: k)).finish x = b.atR (a.put o.dst x) (.inRegion ops rest :: k):=fun x=>by rw [Frame.finish_atR,ho]; rfl
 have hw:Region.wanted o (yielded ops a.tmps) = true:=by simp [Region.wanted,hg]
 obtain ⟨nx,v',es,h3,h4,h6,real⟩:=bY _ v1 (h v1 m.grow m.nv);obtain ⟨w',g1,g2⟩:=real w #[] m.msk;rw [Array.empty_append] at g1
 rcases h3 with ⟨x,rfl,h3⟩ | ⟨rfl,h3⟩
 ·refine ⟨_,v',⟨w',seen P b.fn es,?_,h4,g2,ea h6⟩,h3⟩;rw [iI w ho hw (.inl hd),← hfin x];unfold stepG.apply;simp only [if_true,g1,hk',Bool.false_eq_true,if_false];simp [GStep.after,G,Frame.atR]
 ·refine ⟨_,v',⟨w',seen P b.fn es,?_,h4,g2,ea h6⟩,h3⟩;rw [iI w ho hw (.inl hd),← hfin undef];unfold stepG.apply;simp only [if_true,g1,hk',Bool.false_eq_true,if_false];simp [GStep.after,G,Frame.atR]
theorem m7 {x:Value} (hk:b.kind ≠ .early) (ho:ops[i]? = some o) (hg:o.guard = none) (hd:eK o.op = false) (ht:Tm P pm fr (execOp a.eval o)) (hr:∀ v1,bo v v1→(execOp a.eval o).run P v1 = .ok (.value x) v1)
 (h:∀ v1,bo v v1→a9 v1→cQ X P main pm fr T (G (b.atR (a.put o.dst x) (.inRegion ops rest :: k)) cs) v1):cQ X P main pm fr T (G (b.atR a (.inRegion ops (i :: rest) :: k)) cs) v :=
 rOp hk ho hg hd fun v1 h1 hn=>aU (by rintro nx v2 ⟨rfl,rfl⟩; exact .inl ⟨x,rfl,h _ h1 hn⟩) _ _ (ht v1 hn _ _ (hr v1 h1))
theorem rCall (hk:b.kind ≠ .early) (ho:ops[i]? = some o) (hg:o.guard = none) (hd:eK o.op = false) {f:FuncId} {args:Array Value} (hx:∀ v1,(execOp a.eval o).wpS P pm fr (fun n v2=>n = .enter f args ∧ v2 = v1) v1)
 {R:World→cX} (hC:∀ v1,bo v v1→a9 v1→eo X fr P f args v1 (R v1)) (hp:∀ v1,bo v v1→∀ b,pmC v1 (R v1).M b→pm b)
 (h:∀ v1 val v',bo v v1→(R v1).Q (.returned val) v'→∀ v2,bo v' v2→a9 v2→cQ X P main pm fr T (G (b.atR (a.put o.dst val) (.inRegion ops rest :: k)) cs) v2) :
 cQ X P main pm fr T (G (b.atR a (.inRegion ops (i :: rest) :: k)) cs) v:=.go rfl fun v1 w m=>by
 have hk':((b.atR a (.inRegion ops (i :: rest) :: k)).kind == CallKind.early) = false:=by simpa [Frame.atR] using hk
 have hfin:∀ x,(b.atR a (.inRegion ops (i :: rest) :: k)).finish x = b.atR (a.put o.dst x) (.inRegion ops rest :: k):=fun x=>by rw [Frame.finish_atR,ho]; rfl
 have hw:Region.wanted o (yielded ops a.tmps) = true:=by simp [Region.wanted,hg]
 obtain ⟨nx,v',es,⟨rfl,rfl⟩,h4,h6,real⟩:=bY _ v1 (hx v1);obtain ⟨w',g1,g2⟩:=real w #[] m.msk;rw [Array.empty_append] at g1;refine ⟨G (Frame.enter P f args .normal) (b.atR a (.inRegion ops (i :: rest) :: k) :: cs),v',⟨w',seen P b.fn es,?_,h4,g2,ea h6⟩,?_⟩
 ·rw [iI w ho hw (.inl hd)];unfold stepG.apply;simp only [if_true,g1,hk',Bool.false_eq_true,if_false];simp [GStep.after,G,Frame.atR]
 ·refine ((hC v' m.grow m.nv main .normal _ (by decide)).m8 (hp v' m.grow)).bind ?_;rintro g v2 ⟨frm,val,v0,rfl,hkd,hR,hg0,hL⟩;refine .go rfl fun v3 w3 m3=>⟨G (b.atR (a.put o.dst val) (.inRegion ops rest :: k)) cs,v3,?_,h v' val v0 m.grow hR v3 (hg0.trans m3.grow) m3.nv⟩
  obtain ⟨fn,hfn,hres⟩:=hL.res;obtain ⟨x,v',new,⟨rfl,rfl⟩,q4,q6,qr⟩:=bY _ v3 (c8 (hp _ m.grow) _ _ (hres v3 m3.grow m3.nv));obtain ⟨w',q2,q5⟩:=qr w3 #[] m3.msk;rw [Array.empty_append] at q2;refine ⟨w',seen P frm.fn new,?_,.refl _ _,q5,ea q6⟩;rw [← hfin x];simp only [G,stepG,hL.mode,unwind,hL.defers,hfn];rw [q2];simp [GStep.after,doReturn,hkd,seen]
end
section
variable [Payload] [Duo] {P:Program} {ty:TypeId} {Wg C n:Nat} {fv tv:Value} {Fin:Goroutine→World→Prop}
theorem tw_closed (i:Nat):Closed (TW P ty Wg C n tv i):=fun g v v1 h hg=>⟨by rw [hg.old _ (aw h.1)]; exact h.1,Duo.post h.2.1 hg,h.2.2⟩
theorem uB (hF:Closed Fin):Closed (xK P Wg Fin):=fun g v v1 ⟨h1,h2,g',h3,h4,h5⟩ hg=>⟨h1,by rw [hg.old _ (aw h2)]; exact h2,g',h3,h4,hF _ _ _ h5 hg⟩
theorem nK (hF:Closed Fin) (rem fr:Nat):Closed (TM P ty Wg C n fv tv Fin rem fr):=by
 match rem with
 | 0=>exact uB hF
 | 1 =>
   rintro g v v1 (h | ⟨h1,h2,g',h3,h4,h5⟩) hg
   ·exact .inl (uB hF _ _ _ h hg)
   ·exact .inr ⟨by rw [hg.old _ (aw h1)]; exact h1,h2,g',h3,h4,fun u hu hn=>h5 u (hg.trans hu) hn⟩
 | r + 2 =>
   rintro g v v1 ⟨h0,h1,g',child,h2,h3,h4,h5,h6⟩ hg;exact ⟨h0,by rw [hg.old _ (aw h1)]; exact h1,g',child,h2,h3,fun u w hu=>h4 u w (hg.trans hu),fun u hu=>h5 u (hg.trans hu),fun u hu=>h6 u (hg.trans hu)⟩
end
end Go.Gx
namespace Go.Gx
open Go Go.Conc Go.ConcN
open Go.ConcR (KK wgBlock WgAt stA smA rd wr mk Payload DC0 Bk g_of_ofEvents)
section
variable {X:Ext} {P:Program} {main:Bool} {pm:Nat→Prop} {fr:Nat} {T:Goroutine→World→Prop} {b:Frame} {a:Act} {k:List Item} {cs:List Frame} {v:World} {ops:Array Oper} {i:Nat} {rest:List Nat} {o:Oper}
theorem rEnter (hk:b.kind ≠ .early) (ho:ops[i]? = some o) (hg:o.guard = none) (hd:eK o.op = false) {f:FuncId} {args:Array Value} (hx:∀ v1,(execOp a.eval o).wpS P pm fr (fun n v2=>n = .enter f args ∧ v2 = v1) v1)
 (h:∀ v1,bo v v1→a9 v1→cQ X P main pm fr T (G (Frame.enter P f args .normal) (b.atR a (.inRegion ops (i :: rest) :: k) :: cs)) v1) :
 cQ X P main pm fr T (G (b.atR a (.inRegion ops (i :: rest) :: k)) cs) v:=.go rfl fun v1 w m=>by
 have hk':((b.atR a (.inRegion ops (i :: rest) :: k)).kind == CallKind.early) = false:=by simpa [Frame.atR] using hk
 have hfin:∀ x,(b.atR a (.inRegion ops (i :: rest) :: k)).finish x = b.atR (a.put o.dst x) (.inRegion ops rest :: k):=fun x=>by rw [Frame.finish_atR,ho]; rfl
 have hw:Region.wanted o (yielded ops a.tmps) = true:=by simp [Region.wanted,hg]
 obtain ⟨nx,v',es,⟨rfl,rfl⟩,h4,h6,real⟩:=bY _ v1 (hx v1);obtain ⟨w',g1,g2⟩:=real w #[] m.msk;rw [Array.empty_append] at g1;refine ⟨G (Frame.enter P f args .normal) (b.atR a (.inRegion ops (i :: rest) :: k) :: cs),v',⟨w',seen P b.fn es,?_,h4,g2,ea h6⟩,h v' m.grow m.nv⟩;rw [iI w ho hw (.inl hd)];unfold stepG.apply;simp only [if_true,g1,hk',Bool.false_eq_true,if_false];simp [GStep.after,G,Frame.atR]
theorem cQ.kept (hk:∀ g v w S,X.kind main g v w S→X.kind main g v w (fun g' v'=>S g' v' ∧ aJ pm v v')) {g:Goroutine} (h:cQ X P main pm fr T g v):∀ v0,aJ pm v0 v→cQ X P main pm fr (fun g' v'=>T g' v' ∧ aJ pm v0 v') g v:=by
 induction h with
 | stop h=>exact fun v0 h0=>.stop ⟨h,h0⟩
 | step hr bl hb f h _ ih =>
   refine fun v0 h0=>.step hr bl hb (fun v1 w g' v'=>f v1 w g' v' ∧ aJ pm v1 v') (fun v1 w m up=>(h v1 w m up).imp (fun ⟨g',v',hp,hf⟩=>⟨g',v',hp,hf,let ⟨_,_,_,ht,_⟩:=hp; .of_turn ht⟩) (hk _ _ _ _)) fun v1 w m up g' v' hf=>ih v1 w m up g' v' hf.1 v0 ?_
   exact (h0.trans' (.ed m.grow) fun _ _ h=>h.elim).trans hf.2
theorem fD {v:World} {b:Nat} {o:Obj} {M:Nat→Prop} (h:M b):aJ M v (dw v b o) :=
 ⟨rfl,rfl,rfl,by rw [di]; exact Nat.le_refl _,fun k _ hm=>dJ fun e=>hm (e ▸ h)⟩
theorem aJ.cell {M:Nat→Prop} {v v':World} {a:Addr} {x:Value} (h:aJ M v v') (hc:v.cell? a = some x) (hm:¬ M a.block):v'.cell? a = some x:=by
 rw [← hc];simp only [World.cell?];rw [h.block _ (mf hc) hm]
end
section
variable {P:Program} {Shun:Loc→Prop} {t:Trace} {gs:Array Goroutine} {q:Nat→Nat} {ga g g':Goroutine} {v w:World} {sl:Option (Nat × Nat)}
theorem low_touch {B:Nat} {a:Addr} {x:Touch} {ac:MemAct} (h2:ac.touch? = some x) (h3:ac.low B) (h4:x.loc = .cell a):a.block < B:=by
 cases ac with
 | access e =>
   simp only [MemAct.touch?,Option.some.injEq] at h2;subst h2;simp only at h4;simp only [MemAct.low,h4] at h3;exact h3
 | mark m =>
   cases m <;> simp [MemAct.touch?] at h2 <;> (subst h2; simp at h4; subst h4; exact h3)
 | _=>simp [MemAct.touch?] at h2
theorem past_fresh {B:Nat} (h:Past Shun B t) {a:Addr} (hb:B ≤ a.block):mr t (.cell a):=fun i x hx e=>by
 obtain ⟨ac,h1,h2⟩:∃ ac,t.act? i = some ac ∧ ac.touch? = some x:=by simpa [touchAt,Option.bind_eq_some_iff] using hx
 obtain ⟨op,ho,rfl⟩:∃ op,t[i]? = some op ∧ op.act = ac:=by simpa [Trace.act?,Option.map_eq_some_iff] using h1
 have:=low_touch h2 (h.seen op (Array.mem_of_getElem? ho)) e;omega
variable [Bad]
theorem cu.made (h:cu P Shun t gs q ga v w) (al:Alike P ga g) {o:Obj} (h1:isP o = false) (h2:isV o = false) (hst:∀ w:World,w.heap.size = v.heap.size→stepG P true g w = .go g' { w with heap:=w.heap.push o } #[]) :
 ∃ gs' ops,runT P (crowd gs w sl) 0 = (.next (crowd gs' { w with heap:=w.heap.push o } sl),ops) ∧ cu P Shun (t ++ ops) gs' q g' { v with heap:=v.heap.push o } { w with heap:=w.heap.push o } ∧ ∀ a:Addr,a.block = v.heap.size→mr (t ++ ops) (.cell a):=by
 obtain ⟨htn,hbs⟩:=qn (v:=v) (w:=w) (pm:=fun _=>False) (o:=o) h1 h2;replace hbs:=hbs h.msk;have hp:uF P true (fun _=>False) 0 g v w g' { v with heap:=v.heap.push o }:=⟨_,#[],hst w h.msk.size,htn,hbs,by simp⟩;obtain ⟨gs',w',ops,h3,h4,h5⟩:=h.priv (sl:=sl) al hp;have h6:=runT_crowd_go (P:=P) (sl:=sl) (i:=0) h.at0 (show stepG P (0 == 0) ga w = _ from (al.step w).trans (hst w h.msk.size));rw [h3] at h6;have e1:=congrArg Prod.snd h6;have e2:=congrArg Prod.fst h6;simp only [Stepped.next.injEq] at e2;have e3:w' = { w with heap:=w.heap.push o }:=congrArg Machine.world e2;subst e3;have e4:ops = #[]:=e1.trans (by simp [MemOp.ofEvents]);subst e4;refine ⟨gs',_,h3,h5,fun a ha=>?_⟩;rw [Array.append_empty];exact past_fresh h.past (by rw [ha,h.msk.size]; exact Nat.le_refl _)
theorem cu.mask (h:cu P Shun t gs q g v w) {u:World} (k:aJ dI u v) (nu:a9 u) (hsl:∀ (b k:Nat) z,u.heap[b]? ≠ some (slot k z)):cu P Shun t gs q g (jf u w) w:=by
 have hs:=h.msk.size;have hk:=k.size;have gsz:(jf u w).heap.size = w.heap.size:=by simp [jf]; omega
 have hg:=dN u w;have get:∀ b o,(jf u w).heap[b]? = some o→(v.heap[b]? = some o) ∨ o = dummy:=fun b o ho=>by
  by_cases hb:b < u.heap.size
  ·rw [hg.old b hb] at ho;exact .inl ((k.block b hb id).trans ho)
  ·rw [hg.new b (by omega) (aw ho)] at ho;exact .inr (Option.some.inj ho).symm
 have nr:pe (jf u w):=fun b j o z ho hr=>by
  rcases get b _ ho with h1 | rfl
  ·exact h.kD b j o z h1 hr
  ·exact iC hr
 refine ⟨h.at0,h.leave,h.past,h.few,h.norel,hg.nv nu,⟨gsz.symm,h.msk.tape.trans k.tape,rfl,h.msk.os.trans k.os,h.msk.output.trans k.output,fun b hv=>?_,fun b j z hz=>?_,fun b j o z ho hr=>absurd hr (nr b j o z ho)⟩,fun l hl=>?_,fun b j z hz=>?_,nr,h.kept⟩
 ·by_cases hb:b < u.heap.size
  ·have e:=(hg.old b hb).trans (k.block b hb id).symm;rw [e];exact h.msk.vis b fun o ho=>hv o (e.trans ho)
  ·by_cases hb2:b < w.heap.size
   ·exact absurd (hv dummy (hg.new b (by omega) (by omega))) (by simp [isP,dummy])
   ·rw [Array.getElem?_eq_none (by omega),Array.getElem?_eq_none (by omega)]
 ·rcases get b _ hz with h1 | h1
  ·exact absurd h1 (h.iR b j z)
  ·simp [slot,dummy] at h1
 ·obtain ⟨a,o,h1,h2,h3,h4⟩:=h.hid l hl
  by_cases hb:a.block < u.heap.size
  ·exact ⟨a,o,h1,by rw [hg.old _ hb,← k.block _ hb id]; exact h2,h3,h4⟩
  ·subst h1;exact .mk0 (c:=#[]) (hg.new _ (by omega) (by rw [gsz,hs]; exact aw h2))
 ·rcases get b _ hz with h1 | h1
  ·exact h.iR b j z h1
  ·simp [slot,dummy] at h1
end
end Go.Gx
namespace Go.Gx
open Go Go.Conc Go.RowKit
def kS (pm:Nat→Prop) (s:Nat) (v:World):Prop:=s ≤ v.heap.size ∧ ∀ b,b < v.heap.size→pm b→Vis v b→s ≤ b
theorem kS.mw {pm:Nat→Prop} {s:Nat} {v v':World} (h:kS pm s v) (t:ik pm v v'):kS pm s v':=⟨Nat.le_trans h.1 t.size,fun b hb hp hv=>by
 by_cases hi:b < v.heap.size
 ·refine h.2 b hi hp ?_
  rcases tri v b with h1 | ⟨o,h1,h2⟩ | ⟨k,x,h1⟩
  ·exact h1
  ·have:=hv o (t.hid _ _ h1 h2);rw [gM h2] at this; cases this
  ·obtain ⟨y,hy⟩:=t.sl _ _ _ h1;have:=hv _ hy;simp [isP,slot] at this
 ·exact Nat.le_trans h.1 (by omega)⟩
theorem kS.grow {pm:Nat→Prop} {s:Nat} {v v':World} (h:kS pm s v) (g:bo v v'):kS pm s v':=⟨Nat.le_trans h.1 g.size,fun b hb hp hv=>by
 obtain ⟨h1,h2⟩:=(g.vis hb).1 hv;exact h.2 b h1 hp h2⟩
theorem EvS.front {pm:Nat→Prop} {s:Nat} {v:World} {e:Event} (h:EvS pm 0 v e) (hA:kS pm s v):EvS pm s v e:=by
 rcases h with ⟨a,h1,h2,h3,h4⟩ | ⟨r,h1,h2,h3,h4,h5⟩ | h
 ·exact .inl ⟨a,h1,h2,h3,h4.imp (fun ⟨g1,g2⟩=>⟨g1,fun hw=>⟨(g2 hw).1,hA.2 _ h2 (g2 hw).1 g1⟩⟩) id⟩
 ·exact .inr (.inl ⟨r,h1,h2,h3,h4,fun hw=>⟨(h5 hw).1,hA.2 _ h2 (h5 hw).1 h3⟩⟩)
 ·exact .inr (.inr h)
theorem dQ {α:Type} {p:Program} {pm:Nat→Prop} {s:Nat} {Q:α→World→Prop}:∀ (e:Sem α) (v:World),kS pm s v→e.wpS p pm 0 Q v→e.wpS p pm s Q v
 | .pure _,_,_,h=>h
 | .load _ a k,v,hA,⟨h1,x,h2,h3⟩=>⟨h1,x,h2,dQ (k x) v hA h3⟩
 | .store _ a x k,v,hA,⟨h2,h3,h4⟩=>⟨h2,h3,h4.imp (fun ⟨g0,⟨y,hy⟩,g2,g3⟩ =>
  have t1:=(jv (v:=v) (w:=v) (f:=fun | .cells c elem frozen=>.cells (if a.spot.isSome then c else c.setIfInBounds a.off x) elem frozen | o=>o) (jI hy) h3 (by intro o ho; cases o <;> first | exact ho | rfl) (by intro o ho; cases o <;> first | exact ho | rfl)).1
  ⟨hA.2 _ (mf hy) h3 (jI hy),⟨y,hy⟩,g2,dQ k _ (hA.mw t1) g3⟩) (fun ⟨g0,g1,⟨y,hy⟩,g3⟩=>⟨g0,g1,⟨y,hy⟩,dQ k _ (hA.mw (qm (x:=x) (w:=v) g1 hy h3).1) g3⟩)⟩
 | .new _ k,v,hA,⟨h1,h1',h2⟩=>⟨h1,h1',dQ (k _) _ (hA.mw (qn (pm:=pm) (v:=v) (w:=v) h1 h1').1) h2⟩
 | .shape _ k,v,hA,⟨h1,h2⟩=>⟨h1,dQ (k _) _ hA h2⟩
 | .freeze a n k,v,hA,⟨h1,h2,h2',h3⟩=>by
   have hf:s ≤ a.block:=by
    by_cases hb:a.block < v.heap.size
    ·exact hA.2 _ hb h2 h1
    ·exact Nat.le_trans hA.1 (by omega)
   refine ⟨h1,h2,hf,dQ k _ ?_ h3⟩
   by_cases hn:n = 0
   ·have e1:v.freeze a n = v:=by simp [World.freeze,hn]
    rw [e1]; exact hA
   ·have e1:v.freeze a n = _:=if_neg hn;rw [e1];exact hA.mw (jv (v:=v) (w:=v) (f:=fun | .cells c elem (lo,hi)=>.cells c elem (if lo == hi then (a.off,a.off + n) else (min lo a.off,max hi (a.off + n))) | o=>o) h1 h2 (by intro o ho; cases o <;> first | exact ho | rfl) (by intro o ho; cases o <;> first | exact ho | rfl)).1
 | .frozen _ k,v,hA,⟨h1,h2⟩=>⟨h1,dQ (k _) _ hA h2⟩
 | .getObj _ k,v,hA,⟨h1,o,h2,h3,h4,h5⟩=>⟨h1,o,h2,h3,h4,dQ (k o) _ hA h5⟩
 | .setObj r o k,v,hA,⟨h1,h2,h2',h3,h3',h4,⟨o',ho',h5⟩,h6⟩ =>
   ⟨h1,h2,hA.2 _ (aw ho') h2 h1,h3,h3',h4,⟨o',ho',h5⟩,dQ k _ (hA.mw (turn_set (w:=v) h1 h2 h3 h3').1) h6⟩
 | .choose q k,v,hA,h=>by
   simp only [Sem.wpS] at h ⊢;split at h
   ·rename_i hq; rw [if_pos hq]; exact dQ (k 0) _ hA h
   ·rename_i hq; rw [if_neg hq]; exact dQ (k _) _ ⟨hA.1,hA.2⟩ h
 | .sys _ _,_,_,h=>h.elim
 | .program k,v,hA,h=>dQ (k p) v hA h
 | .mark _ k,v,hA,⟨h1,h2⟩=>⟨h1,dQ k v hA h2⟩
 | .halt _,_,_,h=>h.elim
def FrontK (X:Ext):Prop:=∀ {m g v w S} {pm:Nat→Prop} {s:Nat},X.kind m g v w S→X.kind m g v w (fun g' v'=>S g' v' ∧ (kS pm s v→kS pm s v'))
theorem frontXW [Duo] {P:Program} {i:Nat}:FrontK (XW P i):=fun {m g v w S pm s} ⟨g',γ,γ',σ,σ',w',es,h2,h3,h4,h5,h6,h7,h8,h9⟩=>⟨g',γ,γ',σ,σ',w',es,h2,h3,h4,h5,h6,h7,h8,h9,fun hA=>⟨by rw [di]; exact hA.1,fun b hb hp hv=>by
 rw [di] at hb;have hne:Duo.R ≠ b:=fun e=>by
  have:=hv (roB γ') (by rw [← e]; exact cR (aw h2));rw [gM (oA γ')] at this; cases this
 exact hA.2 b hb hp fun o ho=>hv o (by rw [dJ hne]; exact ho)⟩⟩
theorem cQ.front {X:Ext} (hk:FrontK X) {P:Program} {main:Bool} {pm:Nat→Prop} {s:Nat} {T:Goroutine→World→Prop} {g:Goroutine} {v:World} (h:cQ X P main pm 0 T g v) (hA:kS pm s v):cQ X P main pm s (fun g' v'=>T g' v' ∧ kS pm s v') g v:=by
 induction h with
 | stop h=>exact .stop ⟨h,hA⟩
 | step hr bl hb f h _ ih =>
   refine .step hr bl hb (fun v1 w g' v'=>f v1 w g' v' ∧ (kS pm s v1→kS pm s v')) (fun v1 w m u=>?_) fun v1 w m u g' v' hf=>ih v1 w m u g' v' hf.1 (hf.2 (hA.grow m.grow))
   rcases h v1 w m u with ⟨g',v',⟨w',es,h1,h2,h3,h4⟩,hf⟩ | h5
   ·exact .inl ⟨g',v',⟨w',es,h1,h2,h3,fun e he=>(h4 e he).front ((hA.grow m.grow).mw h2)⟩,hf,fun hA'=>hA'.mw h2⟩
   ·exact .inr (hk h5)
theorem eo.front {X:Ext} (hk:FrontK X) {P:Program} {f:FuncId} {args:Array Value} {v:World} {R:cX} {s:Nat} (h:eo X 0 P f args v R) (hA:kS (pmC v R.M) s v):eo X s P f args v R:=fun main kind cs hkd=>by
 refine ((h main kind cs hkd).front hk hA).bind ?_;rintro g v1 ⟨⟨fr,val,v0,h1,h2,h3,h4,h5⟩,hA1⟩;refine .stop ⟨fr,val,v0,h1,h2,h3,h4,h5.mode,h5.defers,?_⟩;obtain ⟨fn,h6,h7⟩:=h5.res;exact ⟨fn,h6,fun v2 hg hn=>dQ _ _ (hA1.grow hg) (h7 v2 hg hn)⟩
section
variable {P:Program}
variable {K:Ctx} {F:Fr} {L:List Res} {g:Bool} {Q:Exit→Act→World→Prop} {N:Act→World→Prop} {ops:Array Oper}
 {op:Op} {ty t t':TypeId} {pos:String} {af:Array Edge} {d:Nat} {x y:Operand}
def iQ (C k:Nat) (z:Value):Res:=⟨fun b=>b = C,fun w=>w.heap[C]? = some (slot k z),fun w w' h ha=>(h C rfl).trans ha⟩
theorem Ev.je {C n cap:Nat} {e:TypeId} {i:Int} (ht:P.underlying t = some (.slice e)) (hz:∀ w,(sizeOf e).run P w = .ok 1 w) (hx:Opd F g x (.slice (some ⟨C,0,none⟩) n cap)) (hy:Opd F g y (I i)) (hi:g = true→0 ≤ i ∧ i < n) :
 Ev P K F L g (.indexAddr t x y) ty (.pointer (some ⟨C,i.toNat,none⟩)):=.of rfl (fun _ _ _ _ _ _ _ _ _=>.bind (.indexAt _ _ _) fun _=>.pure _) fun hg a G w hw dst pos af gd=>by
 have hi':=hi hg;have hu:(underlying t).run P w = .ok (.slice e) w:=by simp [underlying,ht]
 simp [execOp,Instr.indexAt,asIntOf,hx.eval hg G,hy.eval hg G,I,hu,hi',hz,Addr.add];omega
theorem Ev.pL {C k:Nat} {z:Value} {d:TypeDesc} (hu:P.underlying t = some d) (ha:∀ w,(isAgg t).run P w = .ok false w) (hx:Opd F g x (.pointer (some ⟨C,k,none⟩))) (hm:iQ C k z ∈ L):Ev P K F L g (.load t x) ty z:=fun hg=>⟨rfl,fun a fo w I hn dst pos af gd=>by
 have hs:w.heap[C]? = some (slot k z):=(I.own _ hm).1;show (Instr.loadAt t (a.eval x) >>= fun r=>pure (Next.value r)).wpS P (pmK K) K.E.fr _ w;rw [hx.eval hg fo];refine bA _ _ _ (aU ?_ _ _ (show (loadVar t ⟨C,k,none⟩).wpS P (pmK K) K.E.fr (fun r w'=>r = z ∧ w' = w) w from ?_))
 ·rintro r w' ⟨rfl,rfl⟩;exact ⟨rfl,rfl⟩
 ·refine bA _ _ _ (aU ?_ _ _ ((Tm.isAgg (P:=P) t) w hn _ _ (ha w)));rintro b w' ⟨rfl,rfl⟩;exact ⟨.inl rfl,z,.inr (.inl ⟨rfl,hs⟩),rfl,rfl⟩⟩
def RoR [Duo] (γ:List Nat):Res:=⟨fun b=>b = Duo.R,fun w=>GhR w γ,fun w w' h ha=>(h Duo.R rfl).trans ha⟩
theorem nM {C k:Nat} {z u:Value} {L':List Res} (hi:∀ w,(sizeOf t).run P w = .ok 1 w) (hx:Opd F true x (.pointer (some ⟨C,k,none⟩))) (hy:Opd F true y u) (h1:u.oneCell' = true)
 (hu:Upd L (iQ C k z) (iQ C k u) L') (next:Sat K N F L'):Sat K (bH P K ops Q ⟨none,.store t x y,ty,pos,af,none⟩ N) F L:=fun a w G=>by
 refine bF rfl rfl fun hn=>?_
 have hs:w.heap[C]? = some (slot k z):=(G.inv.own _ hu.mem).1;have hp:pmK K C:=((G.inv.own _ hu.mem).2 C rfl).1;have hlt:=aw hs;show (Instr.storeAt t (a.eval x) (a.eval y) >>= fun _=>pure Next.skip).wpS P (pmK K) K.E.fr _ w;rw [hx.eval rfl G.fo,hy.eval rfl G.fo];refine bA _ _ _ (aU ?_ _ _ (show (storeVar t ⟨C,k,none⟩ u).wpS P (pmK K) K.E.fr (fun _ w'=>w' = setSlot w C k u) w from ?_))
 ·rintro r w' rfl;refine next _ _ ⟨G.fo,G.inv.upd hu ⟨rfl,rfl,rfl,by simp [setSlot],fun j hj hne=>?_⟩ ?_ fun b hb=>?_⟩
  ·have:C ≠ j:=fun e=>hne e.symm
   simp [setSlot,Array.getElem?_setIfInBounds_ne this]
  ·show (w.heap.setIfInBounds C (slot k u))[C]? = _;simp [hlt]
  ·exact ⟨.inl hb,by rw [show b = C from hb]; simpa [setSlot] using hlt⟩
 ·have hc:u.cells = #[u]:=by cases u <;> first | rfl | cases h1
  refine bA _ _ _ (aU ?_ _ _ ((Tm.sizeOf (P:=P) t) w hn _ _ (hi w)));rintro b w' ⟨rfl,rfl⟩;rw [hc];exact ⟨h1,hp,.inr ⟨rfl,rfl,⟨z,hs⟩,rfl⟩⟩
end
end Go.Gx
namespace Go.Gx
open Go Go.Conc Go.RowKit
section
variable {P:Program} {pm:Nat→Prop} {fr:Nat} {a:Addr} {x y:Int} {w:World}
structure OwnW (pm:Nat→Prop) (fr:Nat) (a:Addr) (x:Int) (w:World):Prop where
 cell:w.cell? a = some (.int .u64 x)
 fz:w.frozen? a = false
 pm:pm a.block
 fr:fr ≤ a.block
theorem wpS_read (h:w.cell? a = some (.int .u64 x)):(Extern.Atomic.read (.int .u64) a).wpS P pm fr (fun r w'=>r = .int .u64 x ∧ w' = w) w:=by
 refine bA _ _ _ (show (Go.load a .atomic).wpS P pm fr _ w from ?_);exact ⟨.inr ⟨_,h⟩,_,.inl h,rfl,rfl⟩
theorem wpS_loadA (h:w.cell? a = some (.int .u64 x)):(Extern.Atomic.loadT (.int .u64) #[.pointer (some a)]).wpS P pm fr (fun r w'=>r = .int .u64 x ∧ w' = w) w:=wpS_read h
theorem wpS_viewAt (h:OwnW pm fr a x w):(viewAt a.block).wpS P pm fr (fun r w'=>r = none ∧ w' = w) w:=by
 refine bA _ _ _ (show (Go.shape a.block).wpS P pm fr _ w from (⟨jI h.cell,?_⟩));show Sem.wpS P pm fr (if (w.shape? a.block).isSome = true then _ else _) _ w;rw [if_pos (World.shape?_isSome_of_cell? h.cell)];exact ⟨rfl,rfl⟩
theorem wpS_casA (h:OwnW pm fr a x w) {Q:Value→World→Prop} (hQ:Q (.bool true) (w.setCell a (.int .u64 y))):(Extern.Atomic.casT (.int .u64) #[.pointer (some a),.int .u64 x,.int .u64 y]).wpS P pm fr Q w:=by
 refine bA _ _ _ ?_;show Sem.wpS P pm fr (Extern.Atomic.touchesFrozen a >>= _) Q w;refine bA _ _ _ (aU ?_ _ _ (show (Extern.Atomic.touchesFrozen a).wpS P pm fr (fun r w'=>r = false ∧ w' = w) w from ?_))
 ·rintro r w' ⟨rfl,rfl⟩;show Sem.wpS P pm fr (Extern.Atomic.read (.int .u64) a >>= _) Q w';refine bA _ _ _ (aU ?_ _ _ (wpS_read h.cell));rintro r w2 ⟨rfl,rfl⟩;show Sem.wpS P pm fr (if (x == x) = true then (store a (.int .u64 y) .atomic >>= fun _=>pure (.bool (x == x))) else pure (.bool (x == x))) Q w2;have hx:(x == x) = true:=by simp
  rw [hx,if_pos rfl];exact ⟨rfl,h.pm,.inl ⟨h.fr,⟨_,h.cell⟩,h.fz,hQ⟩⟩
 ·refine bA _ _ _ (aU ?_ _ _ (wpS_viewAt h));rintro r w' ⟨rfl,rfl⟩;exact ⟨jI h.cell,h.fz,rfl⟩
end
section
variable {P:Program} {pm:Nat→Prop} {fr:Nat}
theorem wpS_ext {f:FuncId} {fn:Func} {e:Array Value→Sem Value} {vs:Array Value} {w:World} {Q:Next→World→Prop} (hf:P.funcs[f]? = some fn) (hname:(fn.name == "runtime.NumGoroutine") = false) (hb:fn.body.isNone = true) (hn:Extern.findNext fn = none) (he:Extern.find fn = some e)
 (h:(e vs).wpS P pm fr (fun v w'=>Q (.value v) w') w):(callFunc f vs).wpS P pm fr Q w:=by
 unfold callFunc;refine bA _ _ _ (show (Go.program).wpS P pm fr _ w from ?_);show Sem.wpS P pm fr _ Q w;simp only [hf,hname,hb,hn,he,Bool.false_eq_true,if_false,if_true];refine bA _ _ _ (show (Go.mark (.extern f)).wpS P pm fr _ w from ⟨.inr ⟨f,rfl⟩,?_⟩);exact bA _ _ _ h
end
section
variable {P:Program} {f:FuncId} {fn:Func} {a:Addr} {x y z:Int} {w:World}
theorem rt_ext {e:Array Value→Sem Value} {vs:Array Value} {v:Value} {w':World} {es:Array Event} (hf:P.funcs[f]? = some fn) (hname:(fn.name == "runtime.NumGoroutine") = false) (hb:fn.body.isNone = true) (hn:Extern.findNext fn = none) (he:Extern.find fn = some e)
 (h:(e vs).runT P w #[⟨.mark (.extern f),false,true⟩] = (.ok v w',es)):(callFunc f vs).runT P w #[] = (.ok (.value v) w',es):=by
 have h0:(program:Sem Program).runT P w #[] = (.ok P w,#[]):=rfl;have h1:(Go.mark (.extern f)).runT P w #[] = (.ok () w,#[⟨.mark (.extern f),false,true⟩]):=rfl;unfold callFunc;rw [Room.Sem.bind_def,Room.Sem.runT_bind,h0];simp only [hf,hname,hb,hn,he,Bool.false_eq_true,if_false,if_true];rw [Room.Sem.bind_def,Room.Sem.runT_bind,h1];simp only [];rw [Room.Sem.bind_def,Room.Sem.runT_bind,h]
 rfl
theorem rt_read {es:Array Event} (hc:w.cell? a = some (.int .u64 x)):(Extern.Atomic.read (.int .u64) a).runT P w es = (.ok (.int .u64 x) w,es.push ⟨.cell a,false,true⟩):=by
 unfold Extern.Atomic.read;rw [Room.Sem.bind_def,Room.Sem.runT_bind];have h1:(Go.load a .atomic).runT P w es = (.ok (.int .u64 x) w,es.push ⟨.cell a,false,true⟩):=by
  simp only [Go.load,Sem.runT,hc]
  rfl
 rw [h1]
 rfl
theorem rt_loadA {es:Array Event} (hc:w.cell? a = some (.int .u64 x)):(Extern.Atomic.loadT (.int .u64) #[.pointer (some a)]).runT P w es = (.ok (.int .u64 x) w,es.push ⟨.cell a,false,true⟩):=rt_read hc
theorem rt_fz {es:Array Event} (hc:w.cell? a = some (.int .u64 x)) (hz:w.frozen? a = false):(Extern.Atomic.touchesFrozen a).runT P w es = (.ok false w,es):=by
 unfold Extern.Atomic.touchesFrozen;rw [Room.Sem.bind_def,Room.Sem.runT_bind];have h1:(viewAt a.block).runT P w es = (.ok none w,es):=by
  unfold viewAt;rw [Room.Sem.bind_def,Room.Sem.runT_bind];show (match ((Result.ok (w.shape? a.block) w,es):Result _ × Array Event) with | (.ok a w',es')=>Sem.runT P (if a.isSome = true then pure none else _) w' es' | (.halt h w',es')=>(.halt h w',es')) = _;simp only [World.shape?_isSome_of_cell? hc,if_true]
  rfl
 rw [h1];show ((Result.ok (w.frozen? a) w,es):Result Bool × Array Event) = _;rw [hz]
theorem rt_casA {es:Array Event} (hc:w.cell? a = some (.int .u64 z)) (hz:w.frozen? a = false):(Extern.Atomic.casT (.int .u64) #[.pointer (some a),.int .u64 x,.int .u64 y]).runT P w es =
 (.ok (.bool (z == x)) (if z = x then w.setCell a (.int .u64 y) else w),if z = x then (es.push ⟨.cell a,false,true⟩).push ⟨.cell a,true,true⟩ else es.push ⟨.cell a,false,true⟩):=by
 show Sem.runT P (Extern.Atomic.touchesFrozen a >>= _) w es = _;rw [Room.Sem.bind_def,Room.Sem.runT_bind,rt_fz hc hz];show Sem.runT P (Extern.Atomic.read (.int .u64) a >>= _) w es = _;rw [Room.Sem.bind_def,Room.Sem.runT_bind,rt_read hc];show Sem.runT P (if (z == x) = true then (store a (.int .u64 y) .atomic >>= fun _=>(pure (Value.bool (z == x)):Sem Value)) else (pure (Value.bool (z == x)):Sem Value)) w (es.push ⟨.cell a,false,true⟩) = _
 by_cases h:z = x
 ·subst h;have hx:(z == z) = true:=by simp
  rw [hx,if_pos rfl,if_pos rfl,if_pos rfl,Room.Sem.bind_def,Room.Sem.runT_bind];have h1:(store a (.int .u64 y) .atomic).runT P w (es.push ⟨.cell a,false,true⟩) = (.ok () (w.setCell a (.int .u64 y)),(es.push ⟨.cell a,false,true⟩).push ⟨.cell a,true,true⟩):=by
   simp only [Go.store,Sem.runT,hc,hz,Bool.false_eq_true,if_false]
   rfl
  rw [h1]
  rfl
 ·have hx:(z == x) = false:=by simp [h]
  rw [hx,if_neg (by simp),if_neg h,if_neg h]
  rfl
end
section
variable [Duo] {P:Program} {K:Ctx} {F:Fr} {L:List Res} {Q:Exit→Act→World→Prop} {ops:Array Oper} {o:Oper} {rest:List Oper}
theorem AtE.ea {es:Array Event} {fn:FuncId} (h:∀ e ∈ es,AtE e):∀ e ∈ Go.seen P fn es,AtE e:=fun e he=>h e (mem_seen he)
theorem word_fz {v w:World} {γ:List Nat} (m:Msk v w) (h:GhR v γ):w.frozen? wdA = false:=by
 have h0:0 < Duo.c0.length:=by have:=Duo.two; omega
 obtain ⟨c,e,h1,_⟩:=m.ro _ 0 _ _ h (jM.2 ⟨h0,List.getElem?_eq_getElem h0⟩);simp [World.frozen?,wdA,h1]
theorem consAt {i d:Nat} {γ:List Nat} (hX:K.E.X = XW P i) (hm:RoR γ ∈ L) (hg:o.guard = none) (hdst:o.dst = some d) (hdf:eK o.op = false) (hdn:Nat.blt d K.n = true)
 (step:∀ a,gB K F a→∀ w γs (σ:Nat),w.cell? wdA = some (.int .u64 (σ:Nat))→w.frozen? wdA = false→γs i = γ→Duo.J σ γs→∃ x γ' σ' w' es,(execOp a.eval o).runT P w #[] = (.ok (.value x) w',es) ∧ (∀ e ∈ es,AtE e) ∧
  Duo.Tr γ σ γ' σ' ∧ ((w' = w ∧ σ' = σ) ∨ w' = w.setCell wdA (.int .u64 (σ':Nat))) ∧ ∃ L',Upd L (RoR γ) (RoR γ') L' ∧ Sat K (wpList P K ops Q rest) ((d,true,x) :: F) L') :
 Sat K (wpList P K ops Q (o :: rest)) F L:=fun a w G j hj=>by
 obtain ⟨h1,h2⟩:=drop_cons hj;have ho:ops[j]? = some o:=by rw [← Array.getElem?_toList]; exact h1
 rw [List.length_cons,List.range'_succ];intro main T b k cs hT hk hr hc;refine .gen rfl false (fun e=>by cases e) fun v1 w1 m _=>.inr ?_
 have G1:=G.lh m.grow;have hgh:GhR v1 γ:=(G1.inv.own _ hm).1;have hfit:=m.fits;rw [hX] at hfit ⊢;obtain ⟨γs,σ,k1,k2,k3⟩:=hfit;have e1:γs i = γ:=xm k1 hgh;obtain ⟨x,γ',σ',w',es,s1,s2,s3,s4,L',s5,s6⟩:=step a G1.fo w1 γs σ k2 (word_fz m.msk hgh) e1 k3;have hlt:Duo.R < v1.heap.size:=aw hgh;have hk':((b.atR a (.inRegion ops (j :: List.range' (j + 1) rest.length) :: k)).kind == CallKind.early) = false:=by simpa [Frame.atR] using hk
 have hfin:∀ x,(b.atR a (.inRegion ops (j :: List.range' (j + 1) rest.length) :: k)).finish x = b.atR (a.put o.dst x) (.inRegion ops (List.range' (j + 1) rest.length) :: k):=fun x=>by rw [Frame.finish_atR,ho]; rfl
 have hw:Region.wanted o (yielded ops a.tmps) = true:=by simp [Region.wanted,hg]
 refine ⟨Go.Conc.G (b.atR (a.put o.dst x) (.inRegion ops (List.range' (j + 1) rest.length) :: k)) cs,γ,γ',σ,σ',w',Go.seen P b.fn es,hgh,?_,rfl,AtE.ea s2,k2,s3,s4,?_⟩
 ·rw [iI w1 ho hw (.inl hdf),← hfin x];unfold stepG.apply;simp only [if_true,s1,hk',Bool.false_eq_true,if_false];simp [GStep.after,Go.Conc.G,Frame.atR]
 ·have hI:aP K L' (dw v1 Duo.R (roB γ')):=G1.inv.upd s5 (fD rfl) (cR hlt) (fun b hb=>⟨.inl hb,by rw [show b = Duo.R from hb,di]; exact hlt⟩);have G2:Good K ((d,true,x) :: F) L' (a.put o.dst x) (dw v1 Duo.R (roB γ')):=by
   rw [hdst];exact G1.put d true x x (by simpa [Nat.blt_eq] using hdn) rfl hI
  have:=s6 _ _ G2 (j + 1) h2 main T b k cs hT hk hr hc;rw [← hX];exact this
variable {f:FuncId} {fn:Func} {args:List Operand} {ats:Array TypeId} {ty:TypeId} {pos:String} {af:Array Edge} {i d:Nat} {γ:List Nat}
theorem exec_fn {a:Act} {vs:List Value} {gd:Option (Nat × Bool)} {dst:Option Tmp} (hargs:fq F true args vs) (fo:gB K F a):execOp a.eval ⟨dst,.call { callee:=.value (.func f),args:=args.toArray,argTypes:=ats },ty,pos,af,gd⟩ = callFunc f vs.toArray:=by
 have h1:=hargs.eval rfl fo;simp [execOp,resolve,Deferred.ofValue,invoke,Act.eval,h1]
theorem consLoad (hX:K.E.X = XW P i) (hm:RoR γ ∈ L) (hf:P.funcs[f]? = some fn) (hname:(fn.name == "runtime.NumGoroutine") = false) (hb:fn.body.isNone = true) (hn:Extern.findNext fn = none) (he:Extern.find fn = some (Extern.Atomic.loadT (.int .u64)))
 (hargs:fq F true args [.pointer (some wdA)]) (see:Nat→List Nat) (hT:∀ γs (σ:Nat),γs i = γ→Duo.J σ γs→Duo.Tr γ σ (see σ) σ) (L':Nat→List Res) (hu:∀ σ,Upd L (RoR γ) (RoR (see σ)) (L' σ))
 (next:∀ γs (σ:Nat),γs i = γ→Duo.J σ γs→Sat K (wpList P K ops Q rest) ((d,true,.int .u64 (σ:Nat)) :: F) (L' σ)) (hdn:Nat.blt d K.n = true:=by rfl) :
 Sat K (wpList P K ops Q (⟨some d,.call { callee:=.value (.func f),args:=args.toArray,argTypes:=ats },ty,pos,af,none⟩ :: rest)) F L :=
 consAt hX hm rfl rfl rfl hdn fun a fo w γs σ hc hz hi hJ=>⟨.int .u64 (σ:Nat),see σ,σ,w,_,by
  rw [exec_fn hargs fo];exact rt_ext hf hname hb hn he (rt_loadA hc),fun e h=>by
   simp at h
   rcases h with rfl | rfl
   ·exact .inr ⟨f,rfl⟩
   ·exact .inl ⟨false,rfl⟩,hT γs σ hi hJ,.inl ⟨rfl,rfl⟩,_,hu σ,next γs σ hi hJ⟩
theorem consCas (hX:K.E.X = XW P i) (hm:RoR γ ∈ L) (hf:P.funcs[f]? = some fn) (hname:(fn.name == "runtime.NumGoroutine") = false) (hb:fn.body.isNone = true) (hn:Extern.findNext fn = none) (he:Extern.find fn = some (Extern.Atomic.casT (.int .u64)))
 {old new:Nat} (hargs:fq F true args [.pointer (some wdA),.int .u64 (old:Nat),.int .u64 (new:Nat)]) (see:Nat→List Nat) (hit:List Nat) (hT:∀ γs (σ:Nat),γs i = γ→Duo.J σ γs→Duo.Tr γ σ (see σ) σ) (hT2:∀ γs,γs i = γ→Duo.J old γs→Duo.Tr γ old hit new)
 (L':List Nat→List Res) (hu:∀ γ',Upd L (RoR γ) (RoR γ') (L' γ'))
 (next1:∀ γs,γs i = γ→Duo.J old γs→Sat K (wpList P K ops Q rest) ((d,true,.bool true) :: F) (L' hit)) (next2:∀ γs (σ:Nat),γs i = γ→Duo.J σ γs→σ ≠ old→Sat K (wpList P K ops Q rest) ((d,true,.bool false) :: F) (L' (see σ))) (hdn:Nat.blt d K.n = true:=by rfl) :
 Sat K (wpList P K ops Q (⟨some d,.call { callee:=.value (.func f),args:=args.toArray,argTypes:=ats },ty,pos,af,none⟩ :: rest)) F L :=
 consAt hX hm rfl rfl rfl hdn fun a fo w γs σ hc hz hi hJ=>by
  have hx:=rt_ext hf hname hb hn he (rt_casA (P:=P) (x:=(old:Nat)) (y:=(new:Nat)) (es:=#[⟨.mark (.extern f),false,true⟩]) hc hz);have e1:=exec_fn (f:=f) (ats:=ats) (ty:=ty) (pos:=pos) (af:=af) (gd:=none) (dst:=some d) hargs fo;rw [show ([.pointer (some wdA),.int .u64 (old:Nat),.int .u64 (new:Nat)]:List Value).toArray = #[.pointer (some wdA),.int .u64 (old:Nat),.int .u64 (new:Nat)] from rfl] at e1;rw [← e1] at hx
  by_cases h:σ = old
  ·subst h;have hb:((σ:Int) == (σ:Int)) = true:=by simp
   rw [if_pos rfl,if_pos rfl,hb] at hx;refine ⟨.bool true,hit,new,_,_,hx,fun e h=>?_,hT2 γs hi hJ,.inr rfl,_,hu hit,next1 γs hi hJ⟩;simp at h
   rcases h with rfl | rfl | rfl
   ·exact .inr ⟨f,rfl⟩
   ·exact .inl ⟨false,rfl⟩
   ·exact .inl ⟨true,rfl⟩
  ·have h1:¬ (σ:Int) = (old:Int):=by omega
   have hb:((σ:Int) == (old:Int)) = false:=beq_eq_false_iff_ne.2 h1;rw [if_neg h1,if_neg h1,hb] at hx;refine ⟨.bool false,see σ,σ,_,_,hx,fun e h=>?_,hT γs σ hi hJ,.inl ⟨rfl,rfl⟩,_,hu (see σ),next2 γs σ hi hJ h⟩;simp at h
   rcases h with rfl | rfl
   ·exact .inr ⟨f,rfl⟩
   ·exact .inl ⟨false,rfl⟩
end
def Rdb (w:World) (b k:Nat) (z:Value):Prop:=w.cell? ⟨b,k,none⟩ = some z ∨ ∃ o,w.heap[b]? = some o ∧ Ro o k z
theorem Rdb.same {w w':World} {b k:Nat} {z:Value} (h:Rdb w b k z) (e:w'.heap[b]? = w.heap[b]?):Rdb w' b k z :=
 h.imp (fun h=>by simp only [World.cell?,e]; exact h) (fun ⟨o,h1,h2⟩=>⟨o,e.trans h1,h2⟩)
theorem Rdb.lt {w:World} {b k:Nat} {z:Value} (h:Rdb w b k z):b < w.heap.size:=h.elim (fun h=>mf h) (fun ⟨_,h1,_⟩=>aw h1)
theorem Rdb.cn {M:Nat→Prop} {w w':World} {b k:Nat} {z:Value} (h:Rdb w b k z) (hk:aJ M w w') (hm:¬ M b):Rdb w' b k z:=h.same (hk.block b h.lt hm)
section
variable {P:Program} {K:Ctx} {F:Fr} {L:List Res} {g:Bool} {Q:Exit→Act→World→Prop} {N:Act→World→Prop} {ops:Array Oper}
 {ty t:TypeId} {pos:String} {af:Array Edge} {d:Nat} {x:Operand}
theorem Ev.vK {b k:Nat} {z:Value} (ha:∀ w,(isAgg t).run P w = .ok false w) (hx:Opd F g x (.pointer (some ⟨b,k,none⟩))) (h:∀ w,aP K L w→Rdb w b k z):Ev P K F L g (.load t x) ty z:=fun hg=>⟨rfl,fun a fo w I hn dst pos af gd=>by
 show (Instr.loadAt t (a.eval x) >>= fun r=>pure (Next.value r)).wpS P (pmK K) K.E.fr _ w;rw [hx.eval hg fo];refine bA _ _ _ (aU ?_ _ _ (show (loadVar t ⟨b,k,none⟩).wpS P (pmK K) K.E.fr (fun r w'=>r = z ∧ w' = w) w from ?_))
 ·rintro r w' ⟨rfl,rfl⟩;exact ⟨rfl,rfl⟩
 ·refine bA _ _ _ (aU ?_ _ _ ((Tm.isAgg (P:=P) t) w hn _ _ (ha w)));rintro b' w' ⟨rfl,rfl⟩;exact ⟨.inl rfl,z,(h w' I).elim .inl (fun ⟨o,h1,h2⟩=>.inr (.inr ⟨rfl,o,h1,h2⟩)),rfl,rfl⟩⟩
theorem Ev.gw {α:Type} {E:Enc α} {v:Value} {xs:List α} {i:Int} {k s f o:Nat} (hx:Opd F g x (gg v k)) (h:∀ w,aP K L w→aO E w v xs) (hi:g = true→0 ≤ i ∧ i < xs.length)
 (hf:(P.underlying s).bind (fun d=>match d with | .struct fs=>(fs[f]?).bind (fun fd=>(P.info? fd.type).map (fun i=>(fd.offset,Nat.beq i.size 0))) | _=>none) = some (o,false)) :
 Ev P K F L g (.fieldAddr s x f) ty (gg v (k + o)):=fun hg=>⟨rfl,fun a fo w I hn dst pos af gd=>by
 obtain ⟨b,cap,rfl,h1,_,h2,h3⟩:=h w I;have hi':=hi hg;cases b with
 | none =>
   have:=(h2 rfl).1;subst this;simp at hi';omega
 | some p =>
   have hx':Opd F g x (.pointer (some ⟨p.block,p.off + k,none⟩)):=hx;have:=((Ev.fieldAddr (P:=P) (K:=K) (L:=L) (ty:=ty) hx' hf) hg).2 a fo w I hn dst pos af gd;rw [Nat.add_assoc] at this;exact this⟩
theorem qQ {X:Type} {f:FuncId} {args:List Operand} {ats:Array TypeId} {vs:List Value} {r:Res} {r':X→Res} {L':X→List Res} (J:X→Prop) (val:X→Value) (hu:∀ x,Upd L r (r' x) (L' x)) (hm:r ∈ L) (hen:cv P f) (hargs:fq F true args vs)
 (hC:∀ w,aP K L w→eo K.E.X K.E.fr P f vs.toArray w (fV w r J val r')) (next:∀ x,J x→Sat K N ((d,true,val x) :: F) (L' x)) (hd:Nat.blt d K.n = true:=by rfl) :
 Sat K (bH P K ops Q ⟨some d,.call { callee:=.value (.func f),args:=args.toArray,argTypes:=ats },ty,pos,af,none⟩ N) F L :=
 uu (fun w=>fV w r J val r') J val L' hen hargs hC (fun w I b hb=>((I.own r hm).2 b hb).1)
  (fun w I u w' ⟨x,hJ,he,hk,ha,hf⟩=>⟨x,hJ,by cases he; rfl,I.upd (hu x) hk ha hf⟩) next hd
end
end Go.Gx
namespace Go.Proofs.YtljifjflnakmoaaGreat
open Go Go.Gx
abbrev wgL:Go.Conc.Lib.WgLink:={ add:=27,done:=29,wait:=30,relMerge:=58,disable:=59,enable:=60,inBubble:=61,associate:=62,fatal:=63,uOr:=64,uAdd:=65,raceRead:=66,uLoad:=35,uStore:=67,disassociate:=68,semrelease:=69,acquire:=70,isAssociated:=71,uCas:=39,raceWrite:=72,semacquire:=73,orU64:=100,addU64:=101,loadU64:=80,storeU64:=102,casU64:=81,tWgP:=161,tUP:=163,tAssoc:=164,tWg:=102,tAU:=70,tU64:=51,tUint:=168,tU32:=83,tPU32:=169,tPAU:=185,tPU64:=187,tNoCopy:=100,tANoCopy:=67,tAlign64:=68 }
theorem wgH:Go.Conc.Lib.WgLib Tryz.prog wgL :=
 ⟨Tryz.func27,Tryz.func29,Tryz.func30,Tryz.func58,Tryz.func59,Tryz.func60,Tryz.func61,Tryz.func62,Tryz.func63,Tryz.func64,Tryz.func65,Tryz.func66,Tryz.func35,Tryz.func67,Tryz.func68,Tryz.func69,Tryz.func70,Tryz.func71,Tryz.func39,Tryz.func72,Tryz.func73,Tryz.func100,Tryz.func101,Tryz.func80,Tryz.func102,Tryz.func81,Tryz.underlying161,Tryz.runUnderlying161,Tryz.sizeOf161,Tryz.isAgg161,Tryz.zeroValue161,Tryz.underlying163,Tryz.runUnderlying163,Tryz.sizeOf163,Tryz.isAgg163,Tryz.zeroValue163,Tryz.underlying164,Tryz.runUnderlying164,Tryz.sizeOf164,Tryz.isAgg164,Tryz.zeroValue164,Tryz.underlying102,Tryz.runUnderlying102,Tryz.sizeOf102,Tryz.isAgg102,Tryz.zeroValue102,Tryz.underlying70,Tryz.runUnderlying70,Tryz.sizeOf70,Tryz.isAgg70,Tryz.zeroValue70,Tryz.underlying51,Tryz.runUnderlying51,Tryz.sizeOf51,Tryz.isAgg51,Tryz.zeroValue51,Tryz.underlying168,Tryz.runUnderlying168,Tryz.sizeOf168,Tryz.isAgg168,Tryz.zeroValue168,Tryz.underlying83,Tryz.runUnderlying83,Tryz.sizeOf83,Tryz.isAgg83,Tryz.zeroValue83,Tryz.underlying169,Tryz.runUnderlying169,Tryz.sizeOf169,Tryz.isAgg169,Tryz.zeroValue169,Tryz.underlying185,Tryz.runUnderlying185,Tryz.sizeOf185,Tryz.isAgg185,Tryz.zeroValue185,Tryz.underlying187,Tryz.runUnderlying187,Tryz.sizeOf187,Tryz.isAgg187,Tryz.zeroValue187,Tryz.underlying0,Tryz.runUnderlying0,Tryz.sizeOf0,Tryz.isAgg0,Tryz.zeroValue0,Tryz.underlying3,Tryz.runUnderlying3,Tryz.sizeOf3,Tryz.isAgg3,Tryz.zeroValue3,Tryz.underlying4,Tryz.runUnderlying4,Tryz.sizeOf4,Tryz.isAgg4,Tryz.zeroValue4,Tryz.underlying9,Tryz.runUnderlying9,Tryz.sizeOf9,Tryz.isAgg9,Tryz.zeroValue9,Tryz.underlying20,Tryz.runUnderlying20,Tryz.sizeOf20,Tryz.isAgg20,Tryz.zeroValue20,Tryz.underlying21,Tryz.runUnderlying21,Tryz.sizeOf21,Tryz.isAgg21,Tryz.zeroValue21,(by kernel_rfl),(by kernel_rfl)⟩
instance:Go.ConcR.Payload:=⟨4⟩
end Go.Proofs.YtljifjflnakmoaaGreat
namespace Go.Proofs.YtljifjflnakmoaaGreat
open Go Go.Gx Go.Conc Go.RowKit
section
variable [Duo] {i:Nat} {γ:List Nat} {w:World}
theorem wload_ok (see:Nat→List Nat) (h:At (RoR γ) w) (hT:∀ γs (σ:Nat),γs i = γ→Duo.J σ γs→Duo.Tr γ σ (see σ) σ) :
 eo (XW Tryz.prog i) 0 Tryz.prog 35 #[.pointer (some wdA)] w (Gx.fV w (RoR γ) (fun p:Nat × (Nat→List Nat)=>p.2 i = γ ∧ Duo.J p.1 p.2) (fun p=>.int .u64 (p.1:Nat)) (fun p=>RoR (see p.1))):=by
 refine nG 7 [RoR γ] Tryz.func35 rfl rfl (Nat.le_of_ble_eq_true rfl) (Nat.zero_le _) (fun _ _=>Nat.zero_le _) (gU h _) (seq (region (cons (opv (Ev.assign (.c (v:=U64 0) rfl)) (nil (pN (seq (region (cons (opv (Ev.move (.t rfl)) (cons (opv (Ev.nilCheck (.t rfl)) (cons (opv (Ev.fieldAddr (o:=0) (.t rfl) (by kernel_rfl)) (consLoad rfl mH rfl (by kernel_rfl) rfl (by kernel_rfl) (by kernel_rfl) (.cons (.t rfl) .nil) see hT (fun σ=>[RoR (see σ)]) (fun _=>Upd.head) fun γs σ hi hJ=>?_)))))))))))))));refine cons (opv (Ev.assign (.t rfl)) (nil (pN (ret (done rfl (.tmp rfl .nil) (fun w I=>?_))))));exact mY (σ,γs) ⟨hi,hJ⟩ rfl mH w I
theorem wcas_ok {old new:Nat} (see:Nat→List Nat) (hit:List Nat) (h:At (RoR γ) w) (hT:∀ γs (σ:Nat),γs i = γ→Duo.J σ γs→Duo.Tr γ σ (see σ) σ) (hT2:∀ γs,γs i = γ→Duo.J old γs→Duo.Tr γ old hit new) :
 eo (XW Tryz.prog i) 0 Tryz.prog 39 #[.pointer (some wdA),.int .u64 (old:Nat),.int .u64 (new:Nat)] w (Gx.fV w (RoR γ) (fun p:Bool × Nat × (Nat→List Nat)=>p.2.2 i = γ ∧ Duo.J p.2.1 p.2.2 ∧ p.1 = decide (p.2.1 = old)) (fun p=>.bool p.1) (fun p=>RoR (if p.1 = true then hit else see p.2.1))):=by
 refine nG 13 [RoR γ] Tryz.func39 rfl rfl (Nat.le_of_ble_eq_true rfl) (Nat.zero_le _) (fun _ _=>Nat.zero_le _) (gU h _) (seq (region (cons (opv (Ev.assign (.c (v:=.bool false) rfl)) (nil (pN (seq (region (cons (opv (Ev.move (.t rfl)) (cons (opv (Ev.nilCheck (.t rfl)) (cons (opv (Ev.fieldAddr (o:=0) (.t rfl) (by kernel_rfl)) (cons (opv (Ev.move (.t rfl)) (cons (opv (Ev.move (.t rfl)) (consCas rfl mH rfl (by kernel_rfl) rfl (by kernel_rfl) (by kernel_rfl) (.cons (.t rfl) (.cons (.t rfl) (.cons (.t rfl) .nil))) see hit hT hT2 (fun γ'=>[RoR γ']) (fun _=>Upd.head) (fun γs hi hJ=>?_) fun γs σ hi hJ hne=>?_)))))))))))))))))))
 ·refine cons (opv (Ev.assign (.t rfl)) (nil (pN (ret (done rfl (.tmp rfl .nil) (fun w I=>?_))))));exact mY (true,old,γs) ⟨hi,hJ,by simp⟩ rfl mH w I
 ·refine cons (opv (Ev.assign (.t rfl)) (nil (pN (ret (done rfl (.tmp rfl .nil) (fun w I=>?_))))));exact mY (false,σ,γs) ⟨hi,hJ,by simp [hne]⟩ rfl mH w I
end
end Go.Proofs.YtljifjflnakmoaaGreat
namespace Go.Gx
open Go
section
variable {P:Program} {K:Ctx} {F:Fr} {L:List Res} {g:Bool} {ty t t':TypeId} {x y:Operand}
theorem Ev.rem_u32 {m n:UInt32} (hx:Opd F g x (U32 m)) (hy:Opd F g y (U32 n)) (hn:g = true→n ≠ 0):Ev P K F L g (.binOp .rem t x y t') ty (U32 (m % n)):=fun hg =>
 Ev.fa hx hy (fun w=>by
  have h0:(n.toNat:Int) ≠ 0:=fun h=>hn hg (by apply UInt32.toNat_inj.1; simpa using h)
  rw [r6 (.inr rfl) h0];simp only [U32,UInt32.toNat_mod];have e:(m.toNat:Int).tmod n.toNat = ((m.toNat % n.toNat:Nat):Int):=by rw [Int.tmod_eq_emod_of_nonneg (by omega)]; simp
  rw [e]) hg
theorem Ev.sj {m n:UInt64} (hx:Opd F g x (U64 m)) (hy:Opd F g y (U64 n)):Ev P K F L g (.binOp .leq t x y t') ty (.bool (decide (m ≤ n))) :=
 Ev.fa hx hy (dg (by unfold Op.intCmp; simp only [UInt64.le_iff_toNat_le,Int.ofNat_le]) (.inr (.inr (.inr (.inl rfl)))))
theorem Ev.max_u64 {m n:UInt64} (hx:Opd F g x (U64 m)) (hy:Opd F g y (U64 n)) {ats:Array TypeId}:Ev P K F L g (.call { callee:=.builtin .max,args:=#[x,y],argTypes:=ats }) ty (U64 (max m n)):=.of rfl (fun hg a G w hw dst pos af gd=>by
 have e1:execOp a.eval ⟨dst,.call { callee:=.builtin .max,args:=#[x,y],argTypes:=ats },ty,pos,af,gd⟩ = (do pure (.value (← Builtin.max2 (U64 m) (U64 n)))):=by
  simp [execOp,resolve,invoke,builtin,Builtin.max_,hx.eval hg G,hy.eval hg G]
 rw [e1];exact .bind (.pure _) fun _=>.pure _) fun hg a G w hw dst pos af gd=>by
 have e:(max m n).toNat = max m.toNat n.toNat:=by
  show (if m ≤ n then n else m).toNat = _;split <;> rename_i h <;> rw [UInt64.le_iff_toNat_le] at h <;> omega
 simp [execOp,resolve,invoke,builtin,Builtin.max_,Builtin.max2,hx.eval hg G,hy.eval hg G,U64,e];omega
theorem bO {Q:Exit→Act→World→Prop} {L:List Res} {id id':Nat} (hne:Nat.beq id' id = false) (h:Sat K (Q (.exit id')) F L):Sat K (Exit.inBlock id Q (.exit id')) F L:=fun a w G=>by
 show (if id' = id then Q .normal a w else Q (.exit id') a w);rw [if_neg (Nat.ne_of_beq_eq_false hne)]; exact h a w G
end
end Go.Gx
namespace Go.Proofs.YtljifjflnakmoaaGreat
open Go Go.Gx Go.Conc Go.ConcN Go.RowKit Go.Conc.Lib Go.ConcR.Gen Go.ConcN.Gen
def b22:Frame:=baseD 28
noncomputable def bot:Frame:={ (default:Frame) with fn:=Tryz.prog.funcs.size,defers:=[],mode:=.panicking [goexitEntry] }
noncomputable def body22:Code:=Tryz.f28.body.getD .skip
def ptr (b:Nat):Value:=.pointer (some ⟨b,0,none⟩)
def callW (Wg box:Nat):Deferred:={ target:=.fn (.func 28) #[ptr Wg,ptr box],args:=#[] }
theorem quitsTail (T:Array Value):QuitsD Tryz.prog 2 0 (G { b22.at ⟨T,[]⟩ [] with mode:=.returning } [bot]):=by
 refine QuitsD.ctl (g':=G bot []) rfl (fun w=>?_) ?_
 ·simp [G,stepG,unwind,doReturn,results,Frame.at,b22,baseD,bot,Tryz.func28,Tryz.f28,seen,GStep.after,goexitEntry]
 refine QuitsD.ctl (g':={ G bot [] with status:=.finished }) rfl (fun w=>?_) ⟨rfl,rfl⟩;simp [G,stepG,unwind,bot,goexitEntry,Frame.catches]
 rfl
theorem born_step (Wg box:Nat) (w:World):stepG Tryz.prog false (born Tryz.prog (callW Wg box)) w =
 .go (G (b22.atR ⟨#[ptr Wg,ptr box,undef,undef],[]⟩ [.code body22]) [bot]) w #[]:=by
 simp [born,callW,stepG,unwind,callDeferred,invoke,callFunc,Tryz.func28,Tryz.f28,seen,GStep.after,G,Frame.enter,Frame.atR,b22,baseD,bot,body22]
 rfl
theorem entersC:cv Tryz.prog 21:=cv.mk' (by kernel_rfl)
theorem workerX [Duo] {Wg C n i box s:Nat} {tv:Value} {cap:Array Value} {v:World} (hb:v.cell? ⟨box,0,none⟩ = some (.func (.func 21) #[] cap)) (hs:s ≤ v.heap.size)
 (hC:∀ v1,bo v v1→a9 v1→eo (XW Tryz.prog i) s Tryz.prog 21 (#[.nilIface] ++ cap) v1 ⟨fun b=>Row C b ∨ b = Duo.R,fun e v'=>e = .returned (.tuple #[]) ∧ v'.heap[C]? = some (slot i tv) ∧ Duo.mF i v'⟩) :
 cQ (XW Tryz.prog i) Tryz.prog false (pmW C s) s (TW Tryz.prog 102 Wg C n tv i) (born Tryz.prog (callW Wg box)) v:=by
 have hT:=tw_closed (P:=Tryz.prog) (ty:=102) (Wg:=Wg) (C:=C) (n:=n) (tv:=tv) i;refine .ctl hT rfl (born_step Wg box) ?_;simp only [body22,Tryz.f28,Option.getD_some];refine .ctl hT rfl (fun w=>gQ w) (.ctl hT rfl (fun w=>dC w) ?_);simp only [List.size_toArray,List.length_cons,List.length_nil,Nat.reduceAdd,Nat.zero_add,List.range,List.range.loop];refine .ctl hT rfl (fun w=>stepG_defer (b:=b22) rfl rfl (by decide) rfl) ?_
 walk_nrm
 refine .ctl hT rfl (fun w=>cd (b:=b22) w) (.ctl hT rfl (fun w=>dC (b:=b22) w) ?_);simp only [List.size_toArray,List.length_cons,List.length_nil,Nat.reduceAdd,Nat.zero_add,List.range,List.range.loop];refine m7 (b:=b22) (x:=.func (.func 21) #[] cap) (by decide) rfl rfl rfl (Tm.bind (.bind (.sureAddr _) fun _=>.loadVar _ _) fun _=>.pure _) (fun v1 h1=>?_) fun v1 h1 n1=>?_
 ·have hc:v1.cell? ⟨box,0,none⟩ = some (.func (.func 21) #[] cap):=by
   rw [← hb];simp only [World.cell?];rw [h1.old _ (mf hb)]
  simp [Act.eval,execOp,ptr,go_sem,hc]
 walk_nrm
 refine rCall (b:=b22) (f:=21) (args:=#[.nilIface] ++ cap) (R:=fun _=>⟨fun b=>Row C b ∨ b = Duo.R,fun e v'=>e = .returned (.tuple #[]) ∧ v'.heap[C]? = some (slot i tv) ∧ Duo.mF i v'⟩) (by decide) rfl rfl rfl (fun v2=>?_) (fun v2 h2 n2=>hC v2 (h1.trans h2) n2) (fun v2 h2 b hb2=>?_) fun v2 val v3 h2 ⟨hq,hq2,hq3⟩ v4 h4 n4=>?_
 ·have e:∀ T ds,execOp (Act.eval ⟨T,ds⟩) = execOp (Act.eval ⟨T,ds⟩):=fun _ _=>rfl
  have:=dZ (P:=Tryz.prog) entersC (#[.nilIface] ++ cap) (pm:=pmW C s) (fr:=s) v2
  simpa [execOp,resolve,Deferred.ofValue,invoke,Act.eval] using this
 ·exact hb2.imp (fun h=>Nat.le_trans hs (Nat.le_trans h1.size (Nat.le_trans h2.size h))) id
 obtain rfl:=Ending.returned.inj hq;refine .ctl hT rfl (fun w=>cd (b:=b22) w) (.ctl hT rfl (fun w=>gR_end (b:=b22) w rfl) ?_)
 walk_nrm
 refine .ctl hT rfl (g':=G ((baseD wgL.done).at ⟨#[ptr Wg,undef,undef,undef],[]⟩ [.code (body_done wgL)]) ({ b22.at ⟨#[ptr Wg,ptr box,.func (.func 21) #[] cap,.tuple #[]],[]⟩ [] with mode:=.returning } :: [bot])) (fun w=>?_) ?_
 ·exact stepG_unwind_enter (b:=b22) (a:=⟨#[ptr Wg,ptr box,.func (.func 21) #[] cap,.tuple #[]],[dcall 29 #[ptr Wg]]⟩) (ds:=[]) (f:=29) (args:=#[ptr Wg]) (cs:=[bot]) (todo:=[]) rfl wgH.f_done (nm_done wgL) rfl
 refine .stop ⟨by rw [h4.old _ (aw hq2)]; exact hq2,Duo.post hq3 h4,fun w hl hh=>?_⟩;exact doneX wgH (c:={ b22.at ⟨#[ptr Wg,ptr box,.func (.func 21) #[] cap,.tuple #[]],[]⟩ [] with mode:=.returning }) (cs:=[bot]) rfl (quitsTail _) w hl hh
end Go.Proofs.YtljifjflnakmoaaGreat
