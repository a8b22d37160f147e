/- Part. -/
import Derived.Conc.CrowdRun
import Derived.Test.YtjanhajdmhalaaaGreatM5
set_option linter.unusedVariables false
set_option linter.unusedSimpArgs false
set_option linter.unusedSectionVars false
namespace Go.Gx
open Go Go.Conc Go.ConcN
open Go.ConcR (KK wgBlock WgAt stA smA rd wr mk Payload DC0 Bk g_of_ofEvents)
def X0:Ext:=⟨fun _ _=>True,fun _ _ _ _ _ _=>False,fun _=>False,fun _=>True⟩
def gh (l:List Nat):Obj:=.pending (l.map fun n:Nat=>Value.int .i64 n).toArray 0
theorem gh_H (l:List Nat):isH (gh l) = true:=rfl
theorem gh_inj {l l':List Nat} (h:gh l = gh l'):l = l':=by
  simp only [gh,Obj.pending.injEq,and_true] at h
  have h1:=congrArg Array.toList h
  simp only at h1
  exact (List.map_inj_right (f:=fun n:Nat=>Value.int .i64 n) (fun a b e=>by
    have:=(Value.int.inj e).2
    omega)).1 h1
theorem gh_get {v:World} {b:Nat} {l l':List Nat} (h:v.heap[b]? = some (gh l)) (h':v.heap[b]? = some (gh l')):l = l':=gh_inj (Option.some.inj (h.symm.trans h'))
def dr (v:World) (b:Nat) (o:Obj):World:={ v with heap:=v.heap.setIfInBounds b o }
theorem cr {v:World} {b:Nat} {o:Obj} (h:b < v.heap.size):(dr v b o).heap[b]? = some o:=by simp [dr,h]
theorem dU {v:World} {b i:Nat} {o:Obj} (h:b ≠ i):(dr v b o).heap[i]? = v.heap[i]?:=by simp [dr,Array.getElem?_setIfInBounds_ne h]
theorem di (v:World) (b:Nat) (o:Obj):(dr v b o).heap.size = v.heap.size:=by simp [dr]
theorem setG_grow {v u:World} {b:Nat} {o:Obj} (h:bT v u) (hb:b < v.heap.size):bT (dr v b o) (dr u b o):=by
  have hb':b < u.heap.size:=Nat.lt_of_lt_of_le hb h.size
  refine ⟨h.tape,h.os,h.output,by simpa [dr] using h.size,fun i hi=>?_,fun i h1 h2=>?_⟩
  · by_cases e:b = i
    · subst e; rw [cr hb,cr hb']
    · rw [dU e,dU e]; exact h.old i (by simpa [dr] using hi)
  · have h1':v.heap.size ≤ i:=by simpa [dr] using h1
    rw [dU (by omega)]
    exact h.new i h1' (by simpa [dr] using h2)
theorem kU {v:World} {b:Nat} {o:Obj} (h:bC v) (ho:isV o = false):bC (dr v b o):=fun i x hx=>by
  by_cases e:b = i
  · subst e
    have:=aS hx
    rw [cr (by simpa [dr] using this)] at hx
    cases hx; exact ho
  · rw [dU e] at hx; exact h i x hx
section
variable [Payload] (P:Program) (ty:TypeId) (Wg C n:Nat)
structure FitsL (l:List Nat) (w:World):Prop where
  live:WgLive ty Wg w
  add:∀ r,l = [0,r,4]→∃ c:Nat,c < 2147483647 ∧ WgAt ty Wg w (c * KK) 0
  anch:∀ b,l = [2,b]→∃ c:Nat,c ≤ b ∧ c < 2147483648 ∧ WgAt ty Wg w (c * KK) 0
  seen:∀ vs,l = [3,vs]→∃ c:Nat,c ≤ vs ∧ c < 2147483648 ∧ WgAt ty Wg w (c * KK) 0
  woke:l = [5]→WgAt ty Wg w 0 0
inductive Rel (n:Nat):List Nat→List Nat→World→World→Array Event→Prop
  | dis {r:Nat} {w:World}:Rel n [0,r,5] [0,r,4] w w #[mk .disable]
  | add {r c:Nat} {w:World}:WgAt ty Wg w (c * KK) 0→Rel n [0,r,4] [0,r,3] w (w.setCell (stA Wg) (.int .u64 (((c:Int) + 1) * KK))) #[rd (stA Wg),wr (stA Wg)]
  | said {l:List Nat} {w:World} {e:Event}:(e = ⟨.mark (.read (smA Wg)),false,true⟩ ∨ e = ⟨.mark (.write (smA Wg)),false,true⟩)→Rel n l l w w #[e]
  | en {r:Nat} {w:World}:Rel n [0,r,3] [0,r,2] w w #[mk .enable]
  | wdis {w:World}:Rel n [1] [2,n] w w #[mk .disable]
  | ld0 {b:Nat} {w:World}:WgAt ty Wg w 0 0→Rel n [2,b] [6] w w #[rd (stA Wg)]
  | ld {b c:Nat} {w:World}:WgAt ty Wg w (c * KK) 0→c ≠ 0→c ≤ b→Rel n [2,b] [3,c] w w #[rd (stA Wg)]
  | hit {c:Nat} {w:World}:WgAt ty Wg w (c * KK) 0→Rel n [3,c] [4] w (w.setCell (stA Wg) (.int .u64 ((c:Int) * KK + 1))) #[rd (stA Wg),wr (stA Wg)]
  | miss {vs c:Nat} {w:World}:WgAt ty Wg w (c * KK) 0→c < vs→Rel n [3,vs] [2,vs - 1] w w #[rd (stA Wg)]
  | ld4 {w:World}:Rel n [5] [6] w w #[rd (stA Wg)]
  | enk {w:World}:Rel n [6] [7] w w #[mk .enable]
def KB (main:Bool) (g:Goroutine) (v w:World) (g':Goroutine) (v':World):Prop :=
  main = true ∧ ∃ l l' w' es,v.heap[Wg]? = some (gh l) ∧ stepG P true g w = .go g' w' es ∧ g'.status = .running ∧ Rel ty Wg n l l' w w' es ∧ v' = dr v Wg (gh l')
def BlkB (g:Goroutine):Prop:=g.status = .running ∧ g.offers = none ∧ ∀ w,(∃ st,WgAt ty Wg w st 0)→stepG P true g w = .go { g with status:=.blocked } w #[]
def XB:Ext:=⟨fun v w=>∃ l,v.heap[Wg]? = some (gh l) ∧ FitsL ty Wg l w,KB P ty Wg n,fun _=>False,fun _=>True⟩
def O0:Nat→Loc→Prop:=fun _ _=>False
def pmM (fr:Nat):Nat→Prop:=fun b=>fr ≤ b
def pmW (s:Nat):Nat→Prop:=fun b=>s ≤ b ∨ b = C
variable (fv tv:Value)
def TW (i:Nat) (g:Goroutine) (v:World):Prop :=
  v.heap[C]? = some (slot i tv) ∧ ∀ w,WgLive ty Wg w→Has C i tv w→Goes P false (RW ty Wg C n 0 (i + 1 - 1)) DC0 (AtR0 P ty Wg C n 0 (i + 1) tv) 23 g w
variable (Fin:Goroutine→World→Prop)
def AtAcqX (g:Goroutine) (v:World):Prop:=g.status = .running ∧ v.heap[Wg]? = some (gh [7]) ∧ ∃ g',g'.status = .running ∧ (∀ w,stepG P true g w = .go g' w #[mk (.acquire (stA Wg))]) ∧ Fin g' v
def nS:Nat→List Nat
  | 0=>[1]
  | r + 1=>[0,r,5]
def TM:Nat→Nat→Goroutine→World→Prop
  | 0,_,g,v=>AtAcqX P Wg Fin g v
  | 1,fr,g,v=>AtAcqX P Wg Fin g v ∨ (v.heap[Wg]? = some (gh [4]) ∧ BlkB P ty Wg g ∧ ∃ g',g'.status = .running ∧ (∀ w,WgAt ty Wg w 0 1→stepG P true g w = .go g' (w.setCell (smA Wg) (.int .u32 0)) (semEvents (smA Wg))) ∧
      (∀ u,bT v u→bC u→cQ (XB P ty Wg n) P true (pmM fr) fr (TM 0 fr) g' (dr u Wg (gh [5]))))
  | r + 2,_,g,v=>g.status = .running ∧ v.heap[Wg]? = some (gh [0,r,2]) ∧ ∃ g' child,g'.status = .running ∧ child.status = .running ∧
      (∀ u w,bT v u→bC u→Msk u w→stepG P true g w = .spawn g' child w #[]) ∧
      (∀ u,bT v u→bC u→cQ X0 P false (pmW C u.heap.size) u.heap.size (TW P ty Wg C n tv (n - (r + 1))) child (dr u C (slot (n - (r + 1)) fv))) ∧
      (∀ u,bT v u→bC u→cQ (XB P ty Wg n) P true (pmM u.heap.size) u.heap.size (TM (r + 1) u.heap.size) g' (dr u Wg (gh (nS r))))
structure WX where
  tr:Tr
  run:Bool
  wd:WD
  s:Nat
variable (Shun:Loc→Prop)
structure VW (ow:Nat→Nat) (i s:Nat) (w u:World):Prop where
  nv:bC u
  msk:Msk u w
  cell:∃ z,u.heap[C]? = some (slot i z)
  hidW:∃ o,u.heap[Wg]? = some o ∧ isH o = true
  vis:∀ b,b < w.heap.size→Vis u b→(b < s ∧ ow b = 0) ∨ (s ≤ b ∧ ow b = i + 1)
  sl:∀ (b k:Nat) z,u.heap[b]? = some (slot k z)→b = C ∧ k = i
  hid:∀ l,Shun l→lk u l
structure RunW (ow:Nat→Nat) (i:Nat) (x:WX) (g:Goroutine) (w u:World):Prop extends VW Wg C Shun ow i x.s w u where
  wd:x.wd = ⟨7,0,0⟩
  run:∃ v,RunT X0 P false (pmW C x.s) x.s (TW P ty Wg C n tv i) x.tr g v ∧ bT v u
  nl:x.tr ≠ .leaf
def LibW (i:Nat) (wd:WD) (g:Goroutine) (w:World):Prop :=
  (wd.stage = 7 ∧ wd.deaf = 0 ∧ Goes P false (RW ty Wg C n 0 (i + 1 - 1)) DC0 (AtR0 P ty Wg C n 0 (i + 1) tv) wd.fuel g w) ∨ (wd.stage ≤ 6 ∧ WSit P ty Wg C n O0 O0 0 (i + 1) tv wd.stage wd.fuel wd.deaf g w)
def WOK (ow:Nat→Nat) (i:Nat) (x:WX) (g:Goroutine) (w:World):Prop :=
  (x.run = true ∧ ∃ u,RunW P ty Wg C n tv Shun ow i x g w u) ∨ (x.run = false ∧ x.tr = .leaf ∧ LibW P ty Wg C n tv i x.wd g w)
structure eN (ow:Nat→Nat) (l:List Nat) (w u:World):Prop where
  nv:bC u
  msk:Msk u w
  vis:∀ b,b < w.heap.size→Vis u b→ow b = 0
  gK:∀ (b k:Nat) z,u.heap[b]? ≠ some (slot k z)
  hC:∃ o,u.heap[C]? = some o ∧ isH o = true
  hW:u.heap[Wg]? = some (gh l)
  hid:∀ l,Shun l→lk u l
def iB:Loc→Option Nat
  | .cell a=>some a.block
  | .obj r=>some r
  | _=>none
def pls (j fr:Nat) (ow s:Nat→Nat):Pl where
  Sh:=ShN Wg
  Own k l:=(∃ b,iB l = some b ∧ b ≠ C ∧ b ≠ Wg ∧ ow b = k + 1) ∨ l = .cell ⟨C,k,none⟩
  Rd k l:=∃ b,iB l = some b ∧ b ≠ C ∧ b ≠ Wg ∧ ow b = 0 ∧ b < s k ∧ ¬ Shun l
  Mn l:=∃ b,iB l = some b ∧ b ≠ C ∧ b ≠ Wg ∧ ow b = 0 ∧ ¬ Shun l
  Fr l:=(∃ b,iB l = some b ∧ b ≠ C ∧ b ≠ Wg ∧ ow b = 0 ∧ fr ≤ b ∧ ¬ Shun l) ∨ ∃ k,j ≤ k ∧ l = .cell ⟨C,k,none⟩
theorem pls_ok {j fr:Nat} {ow s:Nat→Nat} (hCW:C ≠ Wg) (hs:∀ k,k < j→s k ≤ fr):(pls Wg C Shun j fr ow s).OK j:=by
  have cb:∀ k b,iB (.cell ⟨C,k,none⟩) = some b→b = C:=fun k b h=>by simpa [iB] using h.symm
  have cw:∀ k,¬ ShN Wg (.cell ⟨C,k,none⟩):=fun k ⟨a,h1,h2⟩=>by cases h1; exact hCW h2
  have bw:∀ l b,iB l = some b→b ≠ Wg→¬ ShN Wg l:=fun l b h1 h2 ⟨a,h3,h4⟩=>by subst h3; simp [iB] at h1; omega
  refine ⟨fun k k' l _ _ h h'=>?_,fun k k' l _ _ h h'=>?_,fun k l _ h h'=>?_,fun k l kj h h'=>?_,fun k l kj h h'=>?_,fun k l _ h=>?_,fun k l _ ⟨b,h1,h2,h3,_⟩=>bw l b h1 h3,fun l h=>?_,fun l ⟨b,h1,h2,h3,_⟩=>bw l b h1 h3⟩
  · rcases h with ⟨b,h1,h2,h3,h4⟩ | rfl
    · rcases h' with ⟨b',g1,g2,g3,g4⟩ | rfl
      · have:b = b':=Option.some.inj (h1.symm.trans g1)
        subst this; omega
      · exact absurd (cb _ _ h1) h2
    · rcases h' with ⟨b',g1,g2,g3,g4⟩ | e
      · exact absurd (cb _ _ g1) g2
      · simpa using e
  · obtain ⟨b',g1,g2,g3,g4,_⟩:=h'
    rcases h with ⟨b,h1,h2,h3,h4⟩ | rfl
    · have:b = b':=Option.some.inj (h1.symm.trans g1)
      subst this; omega
    · exact absurd (cb _ _ g1) g2
  · obtain ⟨b',g1,g2,g3,g4,_⟩:=h'
    rcases h with ⟨b,h1,h2,h3,h4⟩ | rfl
    · have:b = b':=Option.some.inj (h1.symm.trans g1)
      subst this; omega
    · exact absurd (cb _ _ g1) g2
  · rcases h' with ⟨b',g1,g2,g3,g4,_⟩ | ⟨k',hk',rfl⟩
    · rcases h with ⟨b,h1,h2,h3,h4⟩ | rfl
      · have:b = b':=Option.some.inj (h1.symm.trans g1)
        subst this; omega
      · exact absurd (cb _ _ g1) g2
    · rcases h with ⟨b,h1,h2,h3,h4⟩ | e
      · exact absurd (cb _ _ h1) h2
      · simp at e; omega
  · obtain ⟨b,h1,h2,h3,h4,h5,_⟩:=h
    rcases h' with ⟨b',g1,g2,g3,g4,g5,_⟩ | ⟨k',hk',rfl⟩
    · have:b = b':=Option.some.inj (h1.symm.trans g1)
      subst this
      have:=hs k kj
      omega
    · exact absurd (cb _ _ h1) h2
  · rcases h with ⟨b,h1,h2,h3,h4⟩ | rfl
    · exact bw l b h1 h3
    · exact cw k
  · rcases h with ⟨b,h1,h2,h3,h4,_⟩ | ⟨k,_,rfl⟩
    · exact bw l b h1 h3
    · exact cw k
end
end Go.Gx
namespace Go.Gx
open Go Go.Conc Go.ConcN
open Go.ConcR (KK wgBlock WgAt stA smA rd wr mk Payload DC0 Bk g_of_ofEvents)
section
variable [Payload] {P:Program} {ty:TypeId} {Wg C n:Nat} {fv tv:Value} {Fin:Goroutine→World→Prop} {Shun:Loc→Prop}
  {ow ow':Nat→Nat} {i j k:Nat} {x y:WX} {g g':Goroutine} {w w' u ux ux':World} {l:List Nat} {fr:Nat}
theorem VW.notC {s:Nat} (h:VW Wg C Shun ow i s w u):¬ Vis u C:=fun hv=>by
  obtain ⟨z,hz⟩:=h.cell
  have:=hv _ hz
  simp [isP,slot] at this
theorem VW.notW {s:Nat} (h:VW Wg C Shun ow i s w u):¬ Vis u Wg:=fun hv=>by
  obtain ⟨o,ho,hh⟩:=h.hidW
  have:=hv _ ho
  rw [lJ hh] at this; cases this
theorem eN.notC (h:eN Wg C Shun ow l w u):¬ Vis u C:=fun hv=>by
  obtain ⟨o,ho,hh⟩:=h.hC
  have:=hv _ ho
  rw [lJ hh] at this; cases this
theorem eN.notW (h:eN Wg C Shun ow l w u):¬ Vis u Wg:=fun hv=>by
  have:=hv _ h.hW
  rw [lJ (gh_H l)] at this; cases this
theorem VW.other {pm:Nat→Prop} {s:Nat} (h:VW Wg C Shun ow i s w u) (t:gD pm ux ux') (b:Beside ux w ux' w') (mx:Msk ux w) (hw:∀ b,b < w.heap.size→ow' b = ow b)
    (sep:∀ b,b < w.heap.size→Vis u b→(∃ o,ux.heap[b]? = some o ∧ isH o = true) ∨ (Vis ux b ∧ ¬ pm b))
    (sl:(∃ o,ux.heap[C]? = some o ∧ isH o = true) ∨ (∃ k' z',ux.heap[C]? = some (slot k' z') ∧ k' ≠ i)):VW Wg C Shun ow' i s w' (gZ u w'):=by
  have gr:=eA u w'
  have m':=other_msk t b mx h.msk sep fun b k z hz=>by
    obtain ⟨rfl,rfl⟩:=h.sl b k z hz
    exact sl
  refine ⟨gr.nv h.nv,m',?_,?_,fun b hb hvis=>?_,fun b k z hz=>h.sl b k z (gr.slot hz),fun l hl=>(h.hid l hl).grow gr⟩
  · obtain ⟨z,hz⟩:=h.cell
    exact ⟨z,by rw [gr.old _ (aS hz)]; exact hz⟩
  · obtain ⟨o,ho,hh⟩:=h.hidW
    exact ⟨o,by rw [gr.old _ (aS ho)]; exact ho,hh⟩
  · obtain ⟨h1,h2⟩:=(gr.vis (by rw [← m'.size]; exact hb)).1 hvis
    have h1':b < w.heap.size:=by rw [h.msk.size]; exact h1
    rw [hw b h1']
    exact h.vis b h1' h2
theorem RunW.grow (h:RunW P ty Wg C n tv Shun ow i x g w u) {u':World} (gr:bT u u') (hv:VW Wg C Shun ow' i x.s w' u'):RunW P ty Wg C n tv Shun ow' i x g w' u' :=
  let ⟨v,h1,h2⟩:=h.run
  ⟨hv,h.wd,⟨v,h1,h2.trans gr⟩,h.nl⟩
theorem eN.other {pm:Nat→Prop} (h:eN Wg C Shun ow l w u) (t:gD pm ux ux') (b:Beside ux w ux' w') (mx:Msk ux w) (hw:∀ b,b < w.heap.size→ow' b = ow b)
    (sep:∀ b,b < w.heap.size→Vis u b→(∃ o,ux.heap[b]? = some o ∧ isH o = true) ∨ (Vis ux b ∧ ¬ pm b)):eN Wg C Shun ow' l w' (gZ u w'):=by
  have gr:=eA u w'
  have m':=other_msk t b mx h.msk sep fun b k z hz=>absurd hz (h.gK b k z)
  refine ⟨gr.nv h.nv,m',fun b hb hvis=>?_,fun b k z hz=>h.gK b k z (gr.slot hz),?_,by rw [gr.old _ (aS h.hW)]; exact h.hW,fun l hl=>(h.hid l hl).grow gr⟩
  · obtain ⟨h1,h2⟩:=(gr.vis (by rw [← m'.size]; exact hb)).1 hvis
    have h1':b < w.heap.size:=by rw [h.msk.size]; exact h1
    rw [hw b h1']
    exact h.vis b h1' h2
  · obtain ⟨o,ho,hh⟩:=h.hC
    exact ⟨o,by rw [gr.old _ (aS ho)]; exact ho,hh⟩
theorem sep_main {s:Nat} (h:VW Wg C Shun ow i s w u) (hm:eN Wg C Shun ow l w ux) (hs:s ≤ fr):∀ b,b < w.heap.size→Vis u b→(∃ o,ux.heap[b]? = some o ∧ isH o = true) ∨ (Vis ux b ∧ ¬ pmM fr b):=fun b hb hv=>by
  rcases tri ux b with h1 | h1 | ⟨k,z,h1⟩
  · have h0:=hm.vis b hb h1
    rcases h.vis b hb hv with ⟨h2,_⟩ | ⟨_,h2⟩
    · exact .inr ⟨h1,by unfold pmM; omega⟩
    · omega
  · exact .inl h1
  · exact absurd h1 (hm.gK b k z)
theorem sep_work {s s':Nat} (h:VW Wg C Shun ow i s w u) (hk:VW Wg C Shun ow k s' w ux) (hne:i ≠ k):∀ b,b < w.heap.size→Vis u b→(∃ o,ux.heap[b]? = some o ∧ isH o = true) ∨ (Vis ux b ∧ ¬ pmW C s' b):=fun b hb hv=>by
  have hbC:b ≠ C:=fun e=>h.notC (e ▸ hv)
  rcases tri ux b with h1 | h1 | ⟨k',z,h1⟩
  · rcases hk.vis b hb h1 with ⟨h3,h4⟩ | ⟨_,h4⟩
    · exact .inr ⟨h1,by unfold pmW; omega⟩
    · rcases h.vis b hb hv with ⟨_,h2⟩ | ⟨_,h2⟩ <;> omega
  · exact .inl h1
  · exact absurd (hk.sl b k' z h1).1 hbC
theorem sep_of_work {s':Nat} (h:eN Wg C Shun ow l w u) (hk:VW Wg C Shun ow k s' w ux):∀ b,b < w.heap.size→Vis u b→(∃ o,ux.heap[b]? = some o ∧ isH o = true) ∨ (Vis ux b ∧ ¬ pmW C s' b):=fun b hb hv=>by
  have hbC:b ≠ C:=fun e=>h.notC (e ▸ hv)
  have h0:=h.vis b hb hv
  rcases tri ux b with h1 | h1 | ⟨k',z,h1⟩
  · rcases hk.vis b hb h1 with ⟨h3,h4⟩ | ⟨_,h4⟩
    · exact .inr ⟨h1,by unfold pmW; omega⟩
    · omega
  · exact .inl h1
  · exact absurd (hk.sl b k' z h1).1 hbC
structure Left (Wg C n:Nat) (except:Nat→Prop) (w w':World):Prop where
  wg:w'.heap[Wg]? = w.heap[Wg]?
  pay:PayAt C n w→PayAt C n w'
  cell:∀ i,¬ except i→PayAt C n w→w'.cell? ⟨C,i,none⟩ = w.cell? ⟨C,i,none⟩
theorem left_main (hm:eN Wg C Shun ow l w ux) (b:Beside ux w ux' w'):Left Wg C n (fun _=>False) w w':=by
  obtain ⟨o,ho,hh⟩:=hm.hC
  have hc:=b.hid C o ho hh
  exact ⟨b.hid Wg _ hm.hW (gh_H l),fun ⟨cs,h1,h2⟩=>⟨cs,hc.trans h1,h2⟩,fun i _ _=>cell_of_block hc i⟩
theorem left_work {s:Nat} (hk:VW Wg C Shun ow k s w ux) (b:Beside ux w ux' w'):Left Wg C n (fun i=>i = k) w w':=by
  obtain ⟨z,hz⟩:=hk.cell
  obtain ⟨o,ho,hh⟩:=hk.hidW
  refine ⟨b.hid Wg o ho hh,fun ⟨cs,h1,h2⟩=>?_,fun i hi ⟨cs,h1,h2⟩=>?_⟩
  · obtain ⟨c',g1,g2,_⟩:=b.sl C k z hz cs _ _ h1
    exact ⟨c',g1,by rw [g2]; exact h2⟩
  · obtain ⟨c',g1,g2,g3⟩:=b.sl C k z hz cs _ _ h1
    simp only [World.cell?,g1,h1,g3 i hi]
theorem Left.rw {ex:Nat→Prop} (h:Left Wg C n ex w w') (hp:PayAt C n w) (hi:¬ ex i):RW ty Wg C n 0 (i + 1 - 1) w w' :=
  ⟨fun b hb=>by omega,fun ⟨st,sm,hl⟩=>⟨st,sm,hl.of_block h.wg⟩,h.pay,h.cell i hi hp⟩
theorem LibW.rely {wd:WD} (h:LibW P ty Wg C n tv i wd g w) (r:RW ty Wg C n 0 (i + 1 - 1) w w'):LibW P ty Wg C n tv i wd g w' :=
  h.imp (fun ⟨h1,h2,h3⟩=>⟨h1,h2,Goes.rely (fun _ _ _ a b=>a.trans b) h3 r⟩) (fun ⟨h1,h2⟩=>⟨h1,h2.rely r⟩)
theorem LibW.status {wd:WD} (h:LibW P ty Wg C n tv i wd g w):g.status = .running ∨ g.status = .finished:=by
  rcases h with ⟨_,_,h⟩ | ⟨_,h⟩
  · exact .inl (Goes.running (fun _ _ x=>x.1) w (RW.refl w) h)
  · exact h.status
theorem WOK.other {ex:Nat→Prop} (h:WOK P ty Wg C n tv Shun ow i x g w) (hr:∀ u,RunW P ty Wg C n tv Shun ow i x g w u→∃ u',RunW P ty Wg C n tv Shun ow' i x g w' u') (hl:Left Wg C n ex w w') (hp:PayAt C n w) (hi:¬ ex i):WOK P ty Wg C n tv Shun ow' i x g w':=by
  rcases h with ⟨h1,u,h2⟩ | ⟨h1,h2,h3⟩
  · exact .inl ⟨h1,hr u h2⟩
  · exact .inr ⟨h1,h2,h3.rely (hl.rw hp hi)⟩
theorem RunW.running (h:RunW P ty Wg C n tv Shun ow i x g w u):g.status = .running:=by
  obtain ⟨v,hv,_⟩:=h.run
  rcases hv.cases with ⟨h1,_⟩ | ⟨h1,_⟩
  · exact absurd h1 h.nl
  · exact h1
theorem WOK.status (h:WOK P ty Wg C n tv Shun ow i x g w):g.status = .running ∨ g.status = .finished:=by
  rcases h with ⟨_,u,h2⟩ | ⟨_,_,h3⟩
  · exact .inl h2.running
  · exact h3.status
theorem WOK.woken (h:WOK P ty Wg C n tv Shun ow i x g w) (a a':Goroutine) (w2:World):woken P a a' w2 g = g:=by
  unfold Go.Conc.woken
  split
  · exact again_running _ h.status
  · rfl
structure gT (Wg C n:Nat) (ex:Nat→Prop) (w w':World):Prop where
  tape:w'.tape = w.tape
  os:w'.os = w.os
  output:w'.output = w.output
  size:w'.heap.size = w.heap.size
  block:∀ b:Nat,b ≠ Wg→b ≠ C→w'.heap[b]? = w.heap[b]?
  pay:PayAt C n w→PayAt C n w'
  cell:∀ i,¬ ex i→w'.cell? ⟨C,i,none⟩ = w.cell? ⟨C,i,none⟩
theorem gT.of_wg {ex:Nat→Prop} (h:Aside Wg w w') (hCW:C ≠ Wg):gT Wg C n ex w w' :=
  ⟨h.tape,h.os,h.output,h.size,fun b hb _=>h.block b hb,fun ⟨cs,h1,h2⟩=>⟨cs,(h.block C hCW).trans h1,h2⟩,fun i _=>cell_of_block (h.block C hCW) i⟩
theorem gT.refl {ex:Nat→Prop} (w:World):gT Wg C n ex w w:=⟨rfl,rfl,rfl,rfl,fun _ _ _=>rfl,id,fun _ _=>rfl⟩
theorem lL {c:Nat} {z:Value} (hp:PayAt C n w) (h:w.cell? ⟨C,c,none⟩ = some z):∃ (cs:Array Value) (e:TypeId),w.heap[C]? = some (.cells cs e (0,0)) ∧ cs[c]? = some z:=by
  obtain ⟨cs,h1,_⟩:=hp
  refine ⟨cs,_,h1,?_⟩
  simpa [World.cell?,h1] using h
theorem lM {c:Nat} {z:Value} {cs:Array Value} {e:TypeId} (h1:w.heap[C]? = some (.cells cs e (0,0))) (h:cs[c]? = some z):w.cell? ⟨C,c,none⟩ = some z:=by
  simpa [World.cell?,h1] using h
theorem VW.lib {ex:Nat→Prop} {a:Nat} (h:VW Wg C Shun ow i a w u) (s:gT Wg C n ex w w') (hp:PayAt C n w) (hi:¬ ex i):VW Wg C Shun ow i a w' (u.at w'.drawn):=by
  have m':Msk (u.at w'.drawn) w':=lib_msk h.msk s.tape s.os s.output s.size s.block h.notW h.notC fun b k z hz=>by
    obtain ⟨rfl,rfl⟩:=h.sl b k z hz
    obtain ⟨c,e,h1,h2⟩:=h.msk.slot _ _ _ hz
    exact lL (s.pay hp) ((s.cell _ hi).trans (lM h1 h2))
  exact ⟨h.nv,m',h.cell,h.hidW,fun b hb hv=>h.vis b (by rw [← s.size]; exact hb) hv,h.sl,h.hid⟩
theorem eN.lib {ex:Nat→Prop} (h:eN Wg C Shun ow l w u) (s:gT Wg C n ex w w'):eN Wg C Shun ow l w' (u.at w'.drawn) :=
  ⟨h.nv,lib_msk h.msk s.tape s.os s.output s.size s.block h.notW h.notC fun b k z hz=>absurd hz (h.gK b k z),fun b hb hv=>h.vis b (by rw [← s.size]; exact hb) hv,h.gK,h.hC,h.hW,h.hid⟩
theorem WOK.lib {ex:Nat→Prop} (h:WOK P ty Wg C n tv Shun ow i x g w) (s:gT Wg C n ex w w') (hp:PayAt C n w) (hi:¬ ex i) (hl:WgLive ty Wg w'):WOK P ty Wg C n tv Shun ow i x g w':=by
  rcases h with ⟨h1,u,h2⟩ | ⟨h1,h2,h3⟩
  · exact .inl ⟨h1,_,h2.grow (bT.at u _) (h2.toVW.lib s hp hi)⟩
  · exact .inr ⟨h1,h2,h3.rely ⟨fun b hb=>by omega,fun _=>hl,s.pay,s.cell i hi⟩⟩
theorem eN.dr (h:eN Wg C Shun ow l w u) (l':List Nat) (hCW:C ≠ Wg) (hS:∀ a,a.block = Wg→¬ Shun (.cell a)):eN Wg C Shun ow l' w (dr u Wg (gh l')):=by
  have hWl:=aS h.hW
  have ge:∀ b,b ≠ Wg→(Gx.dr u Wg (gh l')).heap[b]? = u.heap[b]?:=fun b hb=>dU (Ne.symm hb)
  have vi:∀ b,Vis (Gx.dr u Wg (gh l')) b→b ≠ Wg ∧ Vis u b:=fun b hv=>by
    have hb:b ≠ Wg:=fun e=>by
      subst e
      have:=hv _ (cr hWl)
      rw [lJ (gh_H l')] at this; cases this
    exact ⟨hb,fun o ho=>hv o (by rw [ge b hb]; exact ho)⟩
  have ns:∀ (b k:Nat) z,(Gx.dr u Wg (gh l')).heap[b]? ≠ some (slot k z):=fun b k z hz=>by
    by_cases e:b = Wg
    · subst e
      rw [cr hWl] at hz
      have:=gh_H l'
      rw [Option.some.inj hz] at this
      simp [isH,slot] at this
    · rw [ge b e] at hz
      exact h.gK b k z hz
  refine ⟨kU h.nv rfl,⟨by rw [di]; exact h.msk.size,h.msk.tape,h.msk.drawn,h.msk.os,h.msk.output,fun b hv=>?_,fun b k z hz=>absurd hz (ns b k z)⟩,fun b hb hv=>h.vis b hb (vi b hv).2,ns,?_,cr hWl,fun l hl=>?_⟩
  · obtain ⟨hb,hv'⟩:=vi b hv
    rw [ge b hb]
    exact h.msk.vis b hv'
  · obtain ⟨o,ho,hh⟩:=h.hC
    exact ⟨o,by rw [ge C hCW]; exact ho,hh⟩
  · obtain ⟨a,o,h1,h2,h3⟩:=h.hid l hl
    subst h1
    exact ⟨a,o,rfl,by rw [ge a.block (fun e=>hS a e hl)]; exact h2,h3⟩
def owN (ow:Nat→Nat) (a b k:Nat):Nat→Nat:=fun x=>if a ≤ x ∧ x < b then k + 1 else ow x
theorem VW.own {a:Nat} (h:VW Wg C Shun ow i a w u) (t:gD (pmW C a) u ux') (b:Beside u w ux' w') (hs:a ≤ w.heap.size):VW Wg C Shun (owN ow w.heap.size w'.heap.size i) i a w' ux':=by
  refine ⟨t.nv h.nv,b.msk,?_,?_,fun c hc hv=>?_,fun c k z hz=>?_,fun l hl=>(h.hid l hl).lO t⟩
  · obtain ⟨z,hz⟩:=h.cell
    exact t.sl C i z hz
  · obtain ⟨o,ho,hh⟩:=h.hidW
    exact ⟨o,t.hid Wg o ho hh,hh⟩
  · unfold owN
    by_cases hlt:c < w.heap.size
    · rw [if_neg (by omega)]
      exact h.vis c hlt ((t.vis_iff (by rw [← h.msk.size]; exact hlt)).1 hv)
    · rw [if_pos ⟨by omega,hc⟩]
      exact .inr ⟨by omega,rfl⟩
  · by_cases hlt:c < w.heap.size
    · obtain ⟨y,hy⟩:=t.slot_old (by rw [← h.msk.size]; exact hlt) hz
      exact h.sl c k y hy
    · have:=t.fresh c _ (by rw [← h.msk.size]; omega) hz
      simp [isP,slot] at this
theorem eN.own (h:eN Wg C Shun ow l w u) (t:gD (pmM fr) u ux') (b:Beside u w ux' w') (hf:∀ b,w.heap.size ≤ b→ow b = 0):eN Wg C Shun ow l w' ux':=by
  refine ⟨t.nv h.nv,b.msk,fun c hc hv=>?_,fun c k z hz=>?_,?_,t.hid Wg _ h.hW (gh_H l),fun l hl=>(h.hid l hl).lO t⟩
  · by_cases hlt:c < w.heap.size
    · exact h.vis c hlt ((t.vis_iff (by rw [← h.msk.size]; exact hlt)).1 hv)
    · exact hf c (by omega)
  · by_cases hlt:c < w.heap.size
    · obtain ⟨y,hy⟩:=t.slot_old (by rw [← h.msk.size]; exact hlt) hz
      exact h.gK c k y hy
    · have:=t.fresh c _ (by rw [← h.msk.size]; omega) hz
      simp [isP,slot] at this
  · obtain ⟨o,ho,hh⟩:=h.hC
    exact ⟨o,t.hid C o ho hh,hh⟩
theorem WOK.mk {tr:Tr} {s:Nat} {v:World} (hr:RunT X0 P false (pmW C s) s (TW P ty Wg C n tv i) tr g v) (hg:bT v u) (hv:VW Wg C Shun ow i s w u) (hl:WgLive ty Wg w) :
    ∃ x:WX,x.s = s ∧ x.wd.stage = 7 ∧ x.wd.deaf = 0 ∧ x.tr = tr ∧ WOK P ty Wg C n tv Shun ow i x g w:=by
  by_cases hnl:tr = .leaf
  · subst hnl
    rcases hr.cases with ⟨_,h1,h2⟩ | ⟨hrun,bl,hb,h⟩
    · obtain ⟨c,e,g1,g2⟩:=hv.msk.slot C i tv (by rw [hg.old _ (aS h1)]; exact h1)
      exact ⟨⟨.leaf,false,⟨7,23,0⟩,s⟩,rfl,rfl,rfl,rfl,.inr ⟨rfl,rfl,.inl ⟨rfl,rfl,h2 w hl (lM g1 g2)⟩⟩⟩
    · obtain ⟨_,_,_,⟨f,_,_,e,_⟩,_⟩:=h u w ⟨hg,hv.nv,hv.msk,trivial⟩ (fun _=>trivial)
      cases e
  · exact ⟨⟨tr,true,⟨7,0,0⟩,s⟩,rfl,rfl,rfl,rfl,.inl ⟨rfl,u,hv,rfl,⟨v,hr,hg⟩,hnl⟩⟩
end
end Go.Gx
namespace Go.Gx
open Go Go.Conc Go.ConcN
open Go.ConcR (KK wgBlock WgAt stA smA rd wr mk Payload DC0 Bk g_of_ofEvents)
theorem touch_low {m:MemAct} {x:Touch} {B b:Nat} (h:m.touch? = some x) (hl:m.low B) (hb:iB x.loc = some b):b < B:=by
  cases m with
  | access e =>
    simp only [MemAct.touch?,Option.some.injEq] at h
    subst h
    obtain ⟨loc,wr,sy⟩:=e
    cases loc <;> simp [iB] at hb <;> (subst hb; exact hl)
  | mark m=>cases m <;> simp [MemAct.touch?] at h <;> (subst h; simp [iB] at hb; subst hb; exact hl)
  | _=>simp only [MemAct.touch?,Option.some.injEq,reduceCtorEq] at h <;> (subst h; simp only [iB,Option.some.injEq,reduceCtorEq] at hb; subst hb; exact hl)
theorem fresh_low {t:Trace} {B b:Nat} {l:Loc} (h:∀ op ∈ t,op.act.low B) (hb:iB l = some b) (hB:B ≤ b):j4 t l:=fun i a ha e=>by
  obtain ⟨op,ho,hot⟩:=touch_of ha
  have:=touch_low hot (h op (Array.mem_of_getElem? ho)) (e ▸ hb)
  omega
section
variable [Payload] [Bad] (P:Program) (ty:TypeId) (Wg C n:Nat) (fv tv:Value) (Shun:Loc→Prop)
structure jz (base j:Nat) (gs:Array Goroutine) (w:World) (t:Trace) (D:Nat→WX) (d0:Nat) (q ow:Nat→Nat) (fr:Nat):Prop where
  pos:0 < base
  size:gs.size = base + j
  old:∀ i g,0 < i→i < base→gs[i]? = some g→QuitsD P (q i) (Deaf t i) g
  wk:∀ i,i < j→∃ g,gs[base + i]? = some g ∧ WOK P ty Wg C n tv Shun ow i (D i) g w
  ct:CTP (pls Wg C Shun j fr ow (fun i=>(D i).s)) base Shun w.heap.size j t
  norel:∀ a,NoRelease a t
  deaf0:Deaf t 0 = d0
  deafW:∀ i,i < j→Deaf t (base + i) = (D i).wd.deaf
  rel:∀ i,i < j→(D i).wd.stage ≤ 6→∃ r,RelBy (stA Wg) t (base + i) r
  has:∀ i,i < j→(D i).wd.stage ≤ 6→Has C i tv w
  un:∀ i,j ≤ i→i < n→Has C i fv w
  pay:PayAt C n w
  owj:∀ b,ow b ≤ j
  owf:∀ b,w.heap.size ≤ b→ow b = 0
  sfr:∀ i,i < j→(D i).s ≤ fr
  frs:fr ≤ w.heap.size
  ne:C ≠ Wg
  ltC:C < w.heap.size
  ltW:Wg < w.heap.size
  kept:KeptIn Shun w
end
section
variable [Payload] [Bad] {P:Program} {ty:TypeId} {Wg C n:Nat} {fv tv:Value} {Shun:Loc→Prop}
  {base j:Nat} {gs:Array Goroutine} {w w':World} {t:Trace} {D:Nat→WX} {d0:Nat} {q ow ow':Nat→Nat} {fr k:Nat} {g g' a':Goroutine} {es:Array Event} {fn:FuncId} {pos:String}
theorem jz.ok (h:jz P ty Wg C n fv tv Shun base j gs w t D d0 q ow fr) (ow':Nat→Nat):(pls Wg C Shun j fr ow' (fun i=>(D i).s)).OK j:=pls_ok Wg C Shun h.ne h.sfr
theorem jz.at (h:jz P ty Wg C n fv tv Shun base j gs w t D d0 q ow fr) (d:Nat):jz P ty Wg C n fv tv Shun base j gs (w.at d) t D d0 q ow fr:=by
  have s:gT Wg C n (fun _=>False) w (w.at d):=⟨rfl,rfl,rfl,rfl,fun _ _ _=>rfl,id,fun _ _=>rfl⟩
  refine ⟨h.pos,h.size,h.old,fun i hi=>?_,h.ct,h.norel,h.deaf0,h.deafW,h.rel,h.has,h.un,h.pay,h.owj,h.owf,h.sfr,h.frs,h.ne,h.ltC,h.ltW,h.kept.step fun _ _=>rfl⟩
  obtain ⟨g,hg,hw⟩:=h.wk i hi
  refine ⟨g,hg,?_⟩
  rcases hw with ⟨h1,u,h2⟩ | ⟨h1,h2,h3⟩
  · exact .inl ⟨h1,_,h2.grow (bT.at u _) (h2.toVW.lib s h.pay id)⟩
  · exact .inr ⟨h1,h2,h3.rely (RW.at w d)⟩
theorem mD {B:Nat} (h:∀ e ∈ es,(MemAct.ofEvent e).low B):∀ op ∈ MemOp.ofEvents k fn pos es,op.act.low B:=fun op hop=>by
  obtain ⟨e,he,rfl⟩:=Conc.mem_ofEvents hop
  exact h e he
theorem jz.stepW (h:jz P ty Wg C n fv tv Shun base j gs w t D d0 q ow fr) (hk:k < j) {x':WX} (hg:gs[base + k]? = some g) (hsz:w.heap.size ≤ w'.heap.size)
    (how:∀ b,b < w.heap.size→ow' b = ow b) (how1:∀ b,w.heap.size ≤ b→ow' b = 0 ∨ (ow' b = k + 1 ∧ b < w'.heap.size))
    (hoth:∀ i,i < j→i ≠ k→∀ g,WOK P ty Wg C n tv Shun ow i (D i) g w→WOK P ty Wg C n tv Shun ow' i (D i) g w')
    (hx:WOK P ty Wg C n tv Shun ow' k x' g' w') (hxs:x'.s = (D k).s)
    (hok:∀ e ∈ es,(pls Wg C Shun j fr ow' (fun i=>(D i).s)).OkW base k { g:=base + k,fn,pos,act:=.ofEvent e }) (hlow:∀ e ∈ es,(MemAct.ofEvent e).low w'.heap.size)
    (hnr:∀ e ∈ es,∀ a,MemAct.ofEvent e ≠ .mark (.release a)) (hdeaf:deafBehind (D k).wd.deaf es = x'.wd.deaf)
    (hrel:x'.wd.stage ≤ 6→∃ r,RelBy (stA Wg) (t ++ MemOp.ofEvents (base + k) fn pos es) (base + k) r)
    (hhas:∀ i,i < j→(upd D k x' i).wd.stage ≤ 6→Has C i tv w') (hun:∀ i,j ≤ i→i < n→Has C i fv w') (hpay:PayAt C n w') (hkp:∀ b,Shun (.cell ⟨b,0,none⟩)→w'.heap[b]? = w.heap[b]?) :
    jz P ty Wg C n fv tv Shun base j ((gs.map (woken P g g' w')).setIfInBounds (base + k) g') w' (t ++ MemOp.ofEvents (base + k) fn pos es) (upd D k x') d0 q ow' fr:=by
  have hp:=h.pos
  have hs:(fun i=>(upd D k x' i).s) = fun i=>(D i).s:=funext fun i=>by
    by_cases e:i = k
    · subst e; rw [upd_same,hxs]
    · rw [upd_ne D _ e]
  have ho:∀ op ∈ MemOp.ofEvents (base + k) fn pos es,op.g = base + k:=g_of_ofEvents
  have hct:CTP (pls Wg C Shun j fr ow' (fun i=>(D i).s)) base Shun w'.heap.size j (t ++ MemOp.ofEvents (base + k) fn pos es):=by
    have c1:CTP (pls Wg C Shun j fr ow' (fun i=>(D i).s)) base Shun w'.heap.size j t:=by
      have key:∀ b l,iB l = some b→b < w.heap.size ∨ j4 t l:=fun b l hb=>by
        by_cases hlt:b < w.heap.size
        · exact .inl hlt
        · exact .inr (fresh_low h.ct.seen hb (by omega))
      refine h.ct.change (fun l=>.rfl) (fun i hi l hl=>?_) (fun i hi l hl=>?_) (fun l hl=>?_) (fun l hl=>?_) hsz
      · rcases hl with ⟨b,h1,h2,h3,h4⟩ | hl
        · exact (key b l h1).imp (fun hlt=>.inl ⟨b,h1,h2,h3,by rw [← how b hlt]; exact h4⟩) id
        · exact .inl (.inr hl)
      · obtain ⟨b,h1,h2,h3,h4,h5⟩:=hl
        exact (key b l h1).imp (fun hlt=>⟨b,h1,h2,h3,by rw [← how b hlt]; exact h4,h5⟩) id
      · rcases hl with ⟨b,h1,h2,h3,h4,h5⟩ | hl
        · exact (key b l h1).imp (fun hlt=>.inl ⟨b,h1,h2,h3,by rw [← how b hlt]; exact h4,h5⟩) id
        · exact .inl (.inr hl)
      · obtain ⟨b,h1,h2,h3,h4,h5⟩:=hl
        exact (key b l h1).imp (fun hlt=>⟨b,h1,h2,h3,by rw [← how b hlt]; exact h4,h5⟩) id
    exact c1.appW (h.ok ow') hk (fun op hop=>by
      obtain ⟨e,he,rfl⟩:=Conc.mem_ofEvents hop
      exact hok e he) (mD hlow)
  refine ⟨hp,by simp [h.size],fun i g0 h0 hb hi=>?_,fun i hi=>?_,by rw [hs]; exact hct,fun a=>iL (h.norel a) fun e he=>hnr e he a,by rw [Deaf_other t (by omega) _ ho,h.deaf0],fun i hi=>?_,fun i hi hst=>?_,hhas,hun,hpay,
    fun b=>?_,fun b hb=>?_,fun i hi=>by rw [show (upd D k x' i).s = (D i).s from congrFun hs i]; exact h.sfr i hi,Nat.le_trans h.frs hsz,h.ne,Nat.lt_of_lt_of_le h.ltC hsz,Nat.lt_of_lt_of_le h.ltW hsz,h.kept.step hkp⟩
  · rw [Array.getElem?_setIfInBounds_ne (by omega),Array.getElem?_map] at hi
    obtain ⟨y,hy,rfl⟩:=Option.map_eq_some_iff.1 hi
    have hq:=h.old i y h0 hb hy
    rw [woken_quitsD hq,Deaf_other t (by omega) _ ho]
    exact hq
  · by_cases e:i = k
    · subst e
      exact ⟨g',get_map_set_same _ _ _ (by rw [h.size]; omega),by rw [upd_same]; exact hx⟩
    · obtain ⟨y,hy,hsy⟩:=h.wk i hi
      refine ⟨y,by rw [get_map_set _ _ _ _ (by omega),hy,Option.map_some,hsy.woken],?_⟩
      rw [upd_ne D _ e]
      exact hoth i hi e y hsy
  · by_cases e:i = k
    · subst e; rw [Deaf_own,h.deafW i hi,upd_same]; exact hdeaf
    · rw [Deaf_other t (by omega) _ ho,h.deafW i hi,upd_ne D _ e]
  · by_cases e:i = k
    · subst e; rw [upd_same] at hst; exact hrel hst
    · rw [upd_ne D _ e] at hst
      obtain ⟨r,hr⟩:=h.rel i hi hst
      exact ⟨r,hr.appOther ho (by omega)⟩
  · by_cases hlt:b < w.heap.size
    · rw [how b hlt]; exact h.owj b
    · rcases how1 b (by omega) with h1 | ⟨h1,_⟩ <;> omega
  · rcases how1 b (by omega) with h1 | ⟨h1,h2⟩ <;> omega
theorem jz.step0 (h:jz P ty Wg C n fv tv Shun base j gs w t D d0 q ow fr) (hsz:w.heap.size ≤ w'.heap.size)
    (hoth:∀ i,i < j→∀ g,WOK P ty Wg C n tv Shun ow i (D i) g w→WOK P ty Wg C n tv Shun ow i (D i) g w')
    (hok:∀ e ∈ es,(pls Wg C Shun j fr ow (fun i=>(D i).s)).Ok0 { g:=0,fn,pos,act:=.ofEvent e }) (hlow:∀ e ∈ es,(MemAct.ofEvent e).low w'.heap.size)
    (hnr:∀ e ∈ es,∀ a,MemAct.ofEvent e ≠ .mark (.release a)) (hhas:∀ i,i < j→(D i).wd.stage ≤ 6→Has C i tv w') (hun:∀ i,j ≤ i→i < n→Has C i fv w') (hpay:PayAt C n w') (hkp:∀ b,Shun (.cell ⟨b,0,none⟩)→w'.heap[b]? = w.heap[b]?) :
    jz P ty Wg C n fv tv Shun base j ((gs.map (woken P g a' w')).setIfInBounds 0 a') w' (t ++ MemOp.ofEvents 0 fn pos es) D (deafBehind d0 es) q ow fr:=by
  have hp:=h.pos
  have ho:∀ op ∈ MemOp.ofEvents 0 fn pos es,op.g = 0:=g_of_ofEvents
  refine ⟨hp,by simp [h.size],fun i g0 h0 hb hi=>?_,fun i hi=>?_,?_,fun a=>iL (h.norel a) fun e he=>hnr e he a,by rw [Deaf_own,h.deaf0],fun i hi=>by rw [Deaf_other t (by omega) _ ho,h.deafW i hi],fun i hi hst=>?_,hhas,hun,hpay,h.owj,fun b hb=>h.owf b (by omega),h.sfr,Nat.le_trans h.frs hsz,h.ne,Nat.lt_of_lt_of_le h.ltC hsz,Nat.lt_of_lt_of_le h.ltW hsz,h.kept.step hkp⟩
  · rw [Array.getElem?_setIfInBounds_ne (by omega),Array.getElem?_map] at hi
    obtain ⟨y,hy,rfl⟩:=Option.map_eq_some_iff.1 hi
    have hq:=h.old i y h0 hb hy
    rw [woken_quitsD hq,Deaf_other t (by omega) _ ho]
    exact hq
  · obtain ⟨y,hy,hsy⟩:=h.wk i hi
    exact ⟨y,by rw [get_map_set _ _ _ _ (by omega),hy,Option.map_some,hsy.woken],hoth i hi y hsy⟩
  · exact (h.ct.change (fun l=>.rfl) (fun i hi l hl=>.inl hl) (fun i hi l hl=>.inl hl) (fun l hl=>.inl hl) (fun l hl=>.inl hl) hsz).app0 (h.ok ow) (fun op hop=>by
      obtain ⟨e,he,rfl⟩:=Conc.mem_ofEvents hop
      exact hok e he) (mD hlow)
  · obtain ⟨r,hr⟩:=h.rel i hi hst
    exact ⟨r,hr.appOther ho (by omega)⟩
theorem jz.slip (h:jz P ty Wg C n fv tv Shun base j gs w t D d0 q ow fr) {i k:Nat} (h0:0 < i) (hb:i < base) (hg:gs[i]? = some g) (hq':QuitsD P k (deafBehind (Deaf t i) es) g') (hm:∀ e ∈ es,e.mute = true) :
    jz P ty Wg C n fv tv Shun base j ((gs.map (woken P g g' w)).setIfInBounds i g') w (t ++ MemOp.ofEvents i fn pos es) D d0 (upd q i k) ow fr:=by
  have hp:=h.pos
  have ho:∀ op ∈ MemOp.ofEvents i fn pos es,op.g = i:=g_of_ofEvents
  refine ⟨hp,by simp [h.size],fun y g0 hy0 hb hi=>?_,fun y hy=>?_,?_,fun a=>iL (h.norel a) fun e he=>oU (hm e he) a,by rw [Deaf_other t (by omega) _ ho,h.deaf0],fun y hy=>by rw [Deaf_other t (by omega) _ ho,h.deafW y hy],fun y hy hst=>?_,h.has,h.un,h.pay,h.owj,h.owf,h.sfr,h.frs,h.ne,h.ltC,h.ltW,h.kept⟩
  · by_cases e:i = y
    · subst e
      rw [get_map_set_same _ _ _ (by rw [h.size]; omega)] at hi
      obtain rfl:=Option.some.inj hi
      rw [upd_same,Deaf_own]
      exact hq'
    · rw [Array.getElem?_setIfInBounds_ne e,Array.getElem?_map] at hi
      obtain ⟨z,hz,rfl⟩:=Option.map_eq_some_iff.1 hi
      have hq:=h.old y z hy0 hb hz
      rw [woken_quitsD hq,Deaf_other t (by omega) _ ho,upd_ne q _ (Ne.symm e)]
      exact hq
  · obtain ⟨z,hz,hsz⟩:=h.wk y hy
    exact ⟨z,by rw [get_map_set _ _ _ _ (by omega),hz,Option.map_some,hsz.woken],hsz⟩
  · exact h.ct.appMute (g:=i) (by omega) (fun op hop=>by
      obtain ⟨e,he,rfl⟩:=Conc.mem_ofEvents hop
      exact ⟨rfl,touch_mute (hm e he)⟩) (fun op hop=>by
      obtain ⟨e,he,rfl⟩:=Conc.mem_ofEvents hop
      exact low_mute (hm e he) _)
  · obtain ⟨r,hr⟩:=h.rel y hy hst
    exact ⟨r,hr.appOther ho (by omega)⟩
theorem jz.spawn (h:jz P ty Wg C n fv tv Shun base j gs w t D 0 q ow fr) {child:Goroutine} {x y:MemOp} {x':WX} (hx:x.g = 0 ∧ x.act = .go (base + j)) (hy:y.g = base + j ∧ y.act = .start) (hjn:j < n)
    (hs:x'.s = w.heap.size) (h7:x'.wd.stage = 7) (hd:x'.wd.deaf = 0) (hc:WOK P ty Wg C n tv Shun ow j x' child w) :
    jz P ty Wg C n fv tv Shun base (j + 1) ((gs.setIfInBounds 0 a').push child) w (t ++ #[x,y]) (upd D j x') 0 q ow w.heap.size:=by
  have hp:=h.pos
  have hm:∀ op ∈ #[x,y],op = x ∨ op = y:=by intro op hop; simpa using hop
  have hst:∀ op ∈ #[x,y],op.act ≠ .mark .disable ∧ op.act ≠ .mark .enable:=by
    intro op hop
    rcases hm op hop with rfl | rfl
    · rw [hx.2]; exact ⟨by simp,by simp⟩
    · rw [hy.2]; exact ⟨by simp,by simp⟩
  have hnot:∀ g,0 < g→g < base + j→∀ op ∈ #[x,y],op.g ≠ g:=fun g g0 gl op hop=>by
    rcases hm op hop with rfl | rfl
    · rw [hx.1]; omega
    · rw [hy.1]; omega
  refine ⟨hp,by simp [h.size]; omega,fun i g0 h0 hb hi=>?_,fun i hi=>?_,?_,fun a=>(h.norel a).app fun op hop=>?_,by rw [Deaf_still t 0 _ hst,h.deaf0],fun i hi=>?_,fun i hi hs'=>?_,fun i hi hs'=>?_,fun i hi hin=>h.un i (by omega) hin,h.pay,fun b=>by have:=h.owj b; omega,h.owf,fun i hi=>?_,Nat.le_refl _,h.ne,h.ltC,h.ltW,h.kept⟩
  · rw [Array.getElem?_push_lt (by simp [h.size]; omega),← Array.getElem?_eq_getElem,Array.getElem?_setIfInBounds_ne (by omega)] at hi
    rw [Deaf_still t i _ hst]
    exact h.old i g0 h0 hb hi
  · rcases Nat.lt_or_ge i j with hlt | hge
    · obtain ⟨g,hg,hsg⟩:=h.wk i hlt
      refine ⟨g,?_,by rw [upd_ne D _ (by omega)]; exact hsg⟩
      rw [Array.getElem?_push_lt (by simp [h.size]; omega),← Array.getElem?_eq_getElem,Array.getElem?_setIfInBounds_ne (by omega)]
      exact hg
    · obtain rfl:i = j:=by omega
      refine ⟨child,?_,by rw [upd_same]; exact hc⟩
      rw [show base + i = (gs.setIfInBounds 0 a').size by simp [h.size],Array.getElem?_push_size]
  · refine h.ct.fork hx hy h.deaf0 (fun l=>.rfl) (fun i hi l hl=>hl) (fun i hi l hl=>?_) (fun l hl=>?_) (fun l hl=>?_) (fun l hl=>?_) (fun l hl=>hl)
    · obtain ⟨b,h1,h2,h3,h4,h5,h6⟩:=hl
      refine ⟨b,h1,h2,h3,h4,?_,h6⟩
      simpa only [upd_ne D _ (show i ≠ j by omega)] using h5
    · rcases hl with ⟨b,h1,h2,h3,h4⟩ | hl
      · have:=h.owj b; omega
      · exact .inr ⟨j,Nat.le_refl _,hl⟩
    · obtain ⟨b,h1,h2,h3,h4,h5,h6⟩:=hl
      exact ⟨b,h1,h2,h3,h4,h6⟩
    · rcases hl with ⟨b,h1,h2,h3,h4,h5,h6⟩ | ⟨i,hi,hl⟩
      · exact .inl ⟨b,h1,h2,h3,h4,Nat.le_trans h.frs h5,h6⟩
      · exact .inr ⟨i,by omega,hl⟩
  · rcases hm op hop with rfl | rfl
    · rw [hx.2]; simp
    · rw [hy.2]; simp
  · rw [Deaf_still t _ _ hst]
    rcases Nat.lt_or_ge i j with hlt | hge
    · rw [h.deafW i hlt,upd_ne D _ (by omega)]
    · obtain rfl:i = j:=by omega
      rw [upd_same,hd]
      exact Deaf_absent fun a op ha e=>by have:=h.ct.gs a op ha; omega
  · rcases Nat.lt_or_ge i j with hlt | hge
    · rw [upd_ne D _ (by omega)] at hs'
      obtain ⟨r,hr⟩:=h.rel i hlt hs'
      exact ⟨r,hr.appNot fun op hop=>hnot _ (by omega) (by omega) op hop⟩
    · obtain rfl:i = j:=by omega
      rw [upd_same] at hs'
      omega
  · rcases Nat.lt_or_ge i j with hlt | hge
    · rw [upd_ne D _ (by omega)] at hs'
      exact h.has i hlt hs'
    · obtain rfl:i = j:=by omega
      rw [upd_same] at hs'
      omega
  · rcases Nat.lt_or_ge i j with hlt | hge
    · rw [upd_ne D _ (by omega)]
      exact Nat.le_trans (h.sfr i hlt) h.frs
    · obtain rfl:i = j:=by omega
      rw [upd_same,hs]; exact Nat.le_refl _
end
end Go.Gx
namespace Go.Gx
open Go Go.Conc Go.ConcN
open Go.ConcR (KK wgBlock WgAt stA smA rd wr mk Payload DC0 Bk g_of_ofEvents bk_of_mute ofEvent_loc_mark deafBehind_cons deafBehind_one)
def dq:List Nat→Bool→CTag
  | [0,r,s],_=>.sp r s
  | [1],_=>.kd
  | [2,_],_=>.anch
  | [3,vs],_=>.w2 vs
  | [4],bl=>if bl then .blk else .w3
  | [5],_=>.w4
  | [6],_=>.ke
  | [7],_=>.acq
  | _,_=>.ret
def fK:List Nat→Nat
  | [0,_,s]=>if s = 3 ∨ s = 4 then 1 else 0
  | [2,_] | [3,_] | [4] | [5] | [6]=>1
  | _=>0
def WfL (n j:Nat) (l:List Nat):Prop:=(∃ r s,l = [0,r,s] ∧ j + r + 1 = n) ∨ (j = n ∧ (l = [1] ∨ (∃ b,l = [2,b]) ∨ (∃ vs,l = [3,vs]) ∨ l = [4] ∨ l = [5] ∨ l = [6] ∨ l = [7]))
theorem WfL.le {n j:Nat} {l:List Nat} (h:WfL n j l):j ≤ n:=by
  rcases h with ⟨r,s,_,h⟩ | ⟨h,_⟩ <;> omega
abbrev Mu1:=Tr × (Nat × Nat)
abbrev Mu:=Nat × (List Mu1 × (Nat × Nat))
def rM:Mu1→Mu1→Prop:=Prod.Lex Tr.Sub (Prod.Lex (· < ·) (· < ·))
def rMu:Mu→Mu→Prop:=Prod.Lex (· < ·) (Prod.Lex (Less1 rM) (Prod.Lex (· < ·) (· < ·)))
theorem rM_wf:WellFounded rM:=(Prod.lex ⟨_,Tr.wf⟩ (Prod.lex Nat.lt_wfRel Nat.lt_wfRel)).wf
theorem rMu_wf:WellFounded rMu:=(Prod.lex Nat.lt_wfRel (Prod.lex ⟨_,less1_wf rM_wf⟩ (Prod.lex Nat.lt_wfRel Nat.lt_wfRel))).wf
def wm (x:WX):Mu1:=(x.tr,(x.wd.stage,x.wd.fuel))
def muL (tr:Tr) (D:Nat→WX) (j:Nat):List Mu1:=(tr,(0,0)) :: (List.range' 0 j).map (fun i=>wm (D i))
def wds (D:Nat→WX):Nat→WD:=fun i=>(D i).wd
theorem wds_upd (D:Nat→WX) (k:Nat) (x:WX):wds (upd D k x) = upd (wds D) k x.wd:=funext fun i=>by
  unfold wds
  by_cases e:i = k
  · subst e; rw [upd_same,upd_same]
  · rw [upd_ne D _ e,upd_ne (fun i=>(D i).wd) _ e]
section
variable [Payload] [Bad] (P:Program) (ty:TypeId) (Wg C n:Nat) (fv tv:Value) (Fin:Goroutine→World→Prop) (Shun:Loc→Prop) (base:Nat)
def nD (l:List Nat) (bl:Bool) (gs:Array Goroutine) (w:World) (ow:Nat→Nat) (tr:Tr) (rem fr:Nat):Prop :=
  ∃ gm v u,gs[0]? = some (if bl then { gm with status:=.blocked } else gm) ∧ gm.status = .running ∧ RunT (XB P ty Wg n) P true (pmM fr) fr (TM P ty Wg C n fv tv Fin rem fr) tr gm v ∧ bT v u ∧ eN Wg C Shun ow l w u ∧ (bl = true→l = [4] ∧ BlkB P ty Wg gm)
structure gB (gs:Array Goroutine) (w:World) (t:Trace) (j:Nat) (D:Nat→WX) (q ow:Nat→Nat) (fr:Nat) (l:List Nat) (bl:Bool) (tr:Tr) (rem:Nat) (st sm:Int):Prop where
  com:jz P ty Wg C n fv tv Shun base j gs w t D (fK l) q ow fr
  main:nD P ty Wg C n fv tv Fin Shun l bl gs w ow tr rem fr
  wf:WfL n j l
  wg:WgAt ty Wg w st sm
  mode:ConcN.Mode j (wds D) (dq l bl) st sm
  bound:∀ b,l = [2,b]→Vc j (wds D) ≤ b
  oI:∀ a,a.block = Wg→¬ Shun (.cell a)
def lj (μ:Mu) (m:Machine) (t:Trace):Prop :=
  ∃ gs w sl j D q ow fr l bl tr rem st sm,m = crowd gs w sl ∧ gB P ty Wg C n fv tv Fin Shun base gs w t j D q ow fr l bl tr rem st sm ∧ μ = (rem,(muL tr D j,(sumTo base q,if bl then 0 else 1)))
end
section
variable [Payload] [Bad] {P:Program} {ty:TypeId} {Wg C n:Nat} {fv tv:Value} {Fin:Goroutine→World→Prop} {Shun:Loc→Prop} {base:Nat}
  {gs:Array Goroutine} {w w':World} {t:Trace} {j k:Nat} {D:Nat→WX} {q ow ow':Nat→Nat} {fr:Nat} {l:List Nat} {bl:Bool} {tr:Tr} {rem:Nat} {st sm st' sm':Int} {g g':Goroutine} {es:Array Event} {sl:Option (Nat × Nat)}
theorem nD.woken {gs':Array Goroutine} (h:nD P ty Wg C n fv tv Fin Shun l bl gs w ow tr rem fr) (hm:∀ u,eN Wg C Shun ow l w u→∃ u',bT u u' ∧ eN Wg C Shun ow' l w' u') (hg:∀ x,gs[0]? = some x→gs'[0]? = some (woken P g g' w' x)) :
    ∃ bl',nD P ty Wg C n fv tv Fin Shun l bl' gs' w' ow' tr rem fr ∧ (bl' = bl ∨ (bl = true ∧ bl' = false)) ∧ (mayWake P g = true→g'.status = .running→bl' = false):=by
  obtain ⟨gm,v,u,h0,h1,h2,h3,h4,h5⟩:=h
  obtain ⟨u',g1,g2⟩:=hm u h4
  cases bl with
  | false =>
    refine ⟨false,⟨gm,v,u',?_,h1,h2,h3.trans g1,g2,fun e=>by cases e⟩,.inl rfl,fun _ _=>rfl⟩
    rw [hg _ h0]
    simp [woken_run h1]
  | true =>
    obtain ⟨e4,hb⟩:=h5 rfl
    simp only [if_true] at h0
    by_cases hc:(mayWake P g && g'.status != .blocked && g'.status != .waiting) = true
    · refine ⟨false,⟨gm,v,u',?_,h1,h2,h3.trans g1,g2,fun e=>by cases e⟩,.inr ⟨rfl,rfl⟩,fun _ _=>rfl⟩
      rw [hg _ h0]
      simp [Go.Conc.woken,hc,Go.ConcR.again_blocked h1 hb.2.1]
    · refine ⟨true,⟨gm,v,u',?_,h1,h2,h3.trans g1,g2,fun _=>⟨e4,hb⟩⟩,.inl rfl,fun a b=>absurd (by simp [a,b]) hc⟩
      rw [hg _ h0]
      simp [Go.Conc.woken,hc]
theorem tag_re {bl':Bool} (h:bl' = bl ∨ (bl = true ∧ bl' = false)) (h4:bl = true→l = [4]):dq l bl' = dq l bl ∨ (dq l bl = .blk ∧ dq l bl' = .w3):=by
  rcases h with rfl | ⟨rfl,rfl⟩
  · exact .inl rfl
  · obtain rfl:=h4 rfl
    exact .inr ⟨rfl,rfl⟩
theorem workerB (S:gB P ty Wg C n fv tv Fin Shun base gs w t j D q ow fr l bl tr rem st sm) (hk:k < j) (hg:gs[base + k]? = some g) (hgo:stepG P false g w = .go g' w' es) {x':WX}
    (hcom:jz P ty Wg C n fv tv Shun base j ((gs.map (woken P g g' w')).setIfInBounds (base + k) g') w' (t ++ MemOp.ofEvents (base + k) g.frame.fn g.frame.place es) (upd D k x') (fK l) q ow' fr)
    (hm:∀ u,eN Wg C Shun ow l w u→∃ u',bT u u' ∧ eN Wg C Shun ow' l w' u') (hwg:WgAt ty Wg w' st' sm')
    (hmode:∀ bl',(bl' = bl ∨ (bl = true ∧ bl' = false))→(mayWake P g = true→g'.status = .running→bl' = false)→ConcN.Mode j (upd (wds D) k x'.wd) (dq l bl') st' sm')
    (hV:cnt x'.wd ≤ cnt (D k).wd) (hlt:rM (wm x') (wm (D k))) :
    ∃ m' ops μ',runT P (crowd gs w sl) (base + k) = (.next m',ops) ∧ rMu μ' (rem,(muL tr D j,(sumTo base q,if bl then 0 else 1))) ∧ lj P ty Wg C n fv tv Fin Shun base μ' m' (t ++ ops):=by
  have hp:=S.com.pos
  have hne:(base + k == 0) = false:=by simp; omega
  have hrun:=runT_crowd_go (P:=P) (sl:=sl) (i:=base + k) hg (by rw [hne]; exact hgo)
  obtain ⟨bl',hM,hbl,hwk⟩:=S.main.woken (gs':=(gs.map (woken P g g' w')).setIfInBounds (base + k) g') (g:=g) (g':=g') hm (fun x hx=>by rw [get_map_set _ _ _ _ (by omega),hx]; rfl)
  refine ⟨_,_,(rem,(muL tr (upd D k x') j,(sumTo base q,if bl' then 0 else 1))),hrun,?_,_,w',sl,j,upd D k x',q,ow',fr,l,bl',tr,rem,st',sm',rfl,⟨hcom,hM,S.wf,hwg,?_,fun b hb=>?_,S.oI⟩,rfl⟩
  · refine Prod.Lex.right _ (Prod.Lex.left _ _ (.tail ?_))
    exact less1_at (f:=fun i=>wm (D i)) (f':=fun i=>wm (upd D k x' i)) (i:=k) (Nat.zero_le _) (by omega) (by simp only [upd_same]; exact hlt) (fun i hi=>by simp only [upd_ne D _ hi])
  · rw [wds_upd]; exact hmode bl' hbl hwk
  · have h1:=S.bound b hb
    have h2:=Vc_upd (wds D) x'.wd hk
    rw [wds_upd]
    have:cnt (wds D k) = cnt (D k).wd:=rfl
    omega
theorem okW_evs {pm:Nat→Prop} {s:Nat} {u:World} {e:Event} {s':Nat→Nat} (h:EvS pm s u e) (hpm:pm = pmW C s) (V:VW Wg C Shun ow' k s w' u) (hs:s' k = s) (hsz:u.heap.size = w'.heap.size) :
    ∀ fn pos,(pls Wg C Shun j fr ow' s').OkW base k { g:=base + k,fn,pos,act:=.ofEvent e }:=fun fn pos=>⟨rfl,fun x hx=>by
  rcases h with ⟨a,h1,h2,h3,h4⟩ | ⟨r,h1,h2,h3,h4,h5⟩ | ⟨m,hm,rfl⟩
  · obtain ⟨loc,wr,sy⟩:=e
    simp only at h1 h3 h4
    subst h1 h3
    simp only [ofEvent_cell0,MemAct.touch?,Option.some.injEq] at hx
    subst hx
    rcases h4 with ⟨hv,hw⟩ | ⟨hsp,⟨z,hz⟩,hw⟩
    · have hC:a.block ≠ C:=fun e=>V.notC (e ▸ hv)
      have hW:a.block ≠ Wg:=fun e=>V.notW (e ▸ hv)
      rcases V.vis a.block (by omega) hv with ⟨g1,g2⟩ | ⟨g1,g2⟩
      · refine .inr (.inr ⟨⟨a.block,rfl,hC,hW,g2,by rw [hs]; exact g1,fun hS=>(V.hid _ hS).mC hv⟩,?_,rfl⟩)
        cases wr with
        | false=>rfl
        | true=>have:=(hw rfl).2; omega
      · exact .inr (.inl ⟨.inl ⟨a.block,rfl,hC,hW,g2⟩,rfl⟩)
    · obtain ⟨g1,g2⟩:=V.sl _ _ _ hz
      refine .inr (.inl ⟨.inr ?_,rfl⟩)
      obtain ⟨ab,ao,asp⟩:=a
      simp only at g1 g2 hsp
      subst g1 g2 hsp
      rfl
  · obtain ⟨loc,wr,sy⟩:=e
    simp only at h1 h4 h5
    subst h1 h4
    have hC:r ≠ C:=fun e=>V.notC (e ▸ h3)
    have hW:r ≠ Wg:=fun e=>V.notW (e ▸ h3)
    have hxl:x.loc = .obj r ∧ x.kind = .plain ∧ x.write = wr:=by cases wr <;> simp [MemAct.ofEvent,MemAct.touch?] at hx <;> (subst hx; exact ⟨rfl,rfl,rfl⟩)
    obtain ⟨e1,e2,e3⟩:=hxl
    rw [e1,e2,e3]
    rcases V.vis r (by omega) h3 with ⟨g1,g2⟩ | ⟨g1,g2⟩
    · refine .inr (.inr ⟨⟨r,rfl,hC,hW,g2,by rw [hs]; exact g1,fun hS=>by obtain ⟨a,o,h,_⟩:=V.hid _ hS; cases h⟩,?_,rfl⟩)
      cases wr with
      | false=>rfl
      | true=>have:=(h5 rfl).2; omega
    · exact .inr (.inl ⟨.inl ⟨r,rfl,hC,hW,g2⟩,rfl⟩)
  · rcases hm with rfl | ⟨f,rfl⟩ <;> simp [MemAct.ofEvent,MemAct.touch?] at hx⟩
theorem EvS.still {pm:Nat→Prop} {s:Nat} {u:World} {e:Event} (h:EvS pm s u e):e.loc ≠ .mark .disable ∧ e.loc ≠ .mark .enable:=by
  rcases h with ⟨a,h1,_⟩ | ⟨r,h1,_⟩ | ⟨m,hm,rfl⟩
  · rw [h1]; simp
  · rw [h1]; simp
  · rcases hm with rfl | ⟨f,rfl⟩ <;> simp
theorem EvS.low {pm:Nat→Prop} {s:Nat} {u:World} {e:Event} (h:EvS pm s u e):(MemAct.ofEvent e).low u.heap.size:=(mc (Shun:=fun _=>False) h (fun l hl=>hl.elim)).2.2.2
theorem stepRun {u:World} (S:gB P ty Wg C n fv tv Fin Shun base gs w t j D q ow fr l bl tr rem st sm) (hk:k < j) (hg:gs[base + k]? = some g) (hr:(D k).run = true) (R:RunW P ty Wg C n tv Shun ow k (D k) g w u) :
    ∃ m' ops μ',runT P (crowd gs w sl) (base + k) = (.next m',ops) ∧ rMu μ' (rem,(muL tr D j,(sumTo base q,if bl then 0 else 1))) ∧ lj P ty Wg C n fv tv Fin Shun base μ' m' (t ++ ops):=by
  have h:=S.com
  obtain ⟨v,hT,hgr⟩:=R.run
  rcases hT.cases with ⟨e,_⟩ | ⟨_,b1,hb1,hst⟩
  · exact absurd e R.nl
  have hb:b1 = true→X0.up w:=fun _=>trivial
  obtain ⟨g',v',tr',hsub,hp,hT'⟩:=hst u w ⟨hgr,R.nv,R.msk,trivial⟩ (fun _=>trivial)
  obtain ⟨w',es,hgo,htn,hbs,hev⟩:=hp.resolve_right (fun x=>x)
  have hsz:w.heap.size ≤ w'.heap.size:=by rw [R.msk.size,hbs.msk.size]; exact htn.size
  have hsf:(D k).s ≤ w.heap.size:=Nat.le_trans (h.sfr k hk) h.frs
  have V':=R.toVW.own htn hbs hsf
  have Lf:Left Wg C n (fun i=>i = k) w w':=left_work R.toVW hbs
  have hwg:WgAt ty Wg w' st sm:=S.wg.of_block Lf.wg
  obtain ⟨x',hx1,hx2,hx3,hx4,hx5⟩:=WOK.mk hT' (.refl v') V' ⟨_,_,hwg⟩
  have hwd:(D k).wd = ⟨7,0,0⟩:=R.wd
  have how:∀ b,b < w.heap.size→owN ow w.heap.size w'.heap.size k b = ow b:=fun b hb=>by unfold owN; rw [if_neg (by omega)]
  refine workerB (x':=x') (ow':=owN ow w.heap.size w'.heap.size k) (st':=st) (sm':=sm) S hk hg hgo ?_ (fun u0 M=>?_) hwg (fun bl' hbl hwk=>?_) ?_ ?_
  · refine h.stepW hk hg hsz how (fun b hb=>?_) (fun i hi hne g0 hw0=>?_) hx5 hx1 (fun e he=>?_) (fun e he=>by rw [hbs.msk.size]; exact (hev e he).low) (fun e he a=>mg (hev e he) a) ?_ (fun h7=>by omega) (fun i hi h6=>?_) (fun i hi hin=>?_) (Lf.pay h.pay) (kq R.hid hbs)
    · unfold owN
      by_cases hlt:b < w'.heap.size
      · rw [if_pos ⟨hb,hlt⟩]; exact .inr ⟨rfl,hlt⟩
      · rw [if_neg (by omega)]; exact .inl (h.owf b hb)
    · refine hw0.other (fun u1 R1=>⟨_,R1.grow (eA u1 w') (R1.toVW.other htn hbs R.msk how (sep_work R1.toVW R.toVW hne) (.inr ?_))⟩) Lf h.pay hne
      obtain ⟨z,hz⟩:=R.cell
      exact ⟨k,z,hz,fun e=>hne e.symm⟩
    · exact okW_evs (hev e he) rfl V' rfl hbs.msk.size.symm _ _
    · rw [hwd,hx3]
      exact deafBehind_idle (fun e he=>(hev e he).still) 0
    · by_cases e:i = k
      · subst e; rw [upd_same] at h6; omega
      · rw [upd_ne D _ e] at h6
        exact (Lf.cell i e h.pay).trans (h.has i hi h6)
    · exact (Lf.cell i (by omega) h.pay).trans (h.un i hi hin)
  · exact ⟨_,eA u0 w',M.other htn hbs R.msk how (sep_of_work M R.toVW)⟩
  · have h4:bl = true→l = [4]:=fun e=>by obtain ⟨_,_,_,_,_,_,_,_,h5⟩:=S.main; exact (h5 e).1
    refine ConcN.Mode.retag ?_ (tag_re hbl h4)
    refine S.mode.congr fun a ha=>?_
    by_cases e:a = k
    · subst e; rw [upd_same,hx2]; show 7 = (D a).wd.stage; rw [hwd]
    · rw [upd_ne (wds D) _ e]
  · simp only [cnt,hx2,hwd]; decide
  · show Prod.Lex _ _ (x'.tr,_) ((D k).tr,_)
    rw [hx4]
    exact Prod.Lex.left _ _ hsub
end
end Go.Gx
namespace Go.Gx
open Go Go.Conc Go.ConcN
open Go.ConcR (KK wgBlock WgAt stA smA rd wr mk Payload DC0 Bk g_of_ofEvents bk_of_mute ofEvent_loc_mark deafBehind_cons deafBehind_one)
section
variable [Payload] [Bad] {P:Program} {ty:TypeId} {Wg C n:Nat} {fv tv:Value} {Fin:Goroutine→World→Prop} {Shun:Loc→Prop} {base:Nat}
  {gs:Array Goroutine} {w w':World} {t:Trace} {j k:Nat} {D:Nat→WX} {q ow ow':Nat→Nat} {fr:Nat} {l:List Nat} {bl:Bool} {tr:Tr} {rem:Nat} {st sm st' sm':Int} {g g':Goroutine} {es:Array Event} {sl:Option (Nat × Nat)}
theorem gB.blk4 (S:gB P ty Wg C n fv tv Fin Shun base gs w t j D q ow fr l bl tr rem st sm):bl = true→l = [4]:=fun e=>by obtain ⟨_,_,_,_,_,_,_,_,h5⟩:=S.main; exact (h5 e).1
def BkR (Wg:Nat) (e:Event):Prop:=Bk Wg e ∨ e = mk (.releaseMerge (stA Wg))
theorem BkR.touch {e:Event} (h:BkR Wg e) {x:Touch} (hx:(MemAct.ofEvent e).touch? = some x):ShN Wg x.loc ∧ x.kind ≠ .plain ∧ x.kind ≠ .said:=by
  rcases h with (h1 | h1 | ⟨a,wr,rfl,ha⟩) | rfl
  · rw [ofEvent_loc_mark h1] at hx; cases hx
  · rw [ofEvent_loc_mark h1] at hx; cases hx
  · simp only [Go.ConcR.ofEvent_cell,MemAct.touch?,Option.some.injEq] at hx
    subst hx
    exact ⟨⟨a,rfl,ha⟩,by simp,by simp⟩
  · rw [Go.ConcR.ofEvent_mk] at hx; cases hx
theorem BkR.low {e:Event} (h:BkR Wg e) {B:Nat} (hB:Wg < B):(MemAct.ofEvent e).low B:=by
  rcases h with (h1 | h1 | ⟨a,wr,rfl,ha⟩) | rfl
  · rw [ofEvent_loc_mark h1]; trivial
  · rw [ofEvent_loc_mark h1]; trivial
  · rw [Go.ConcR.ofEvent_cell]; show a.block < B; rw [ha]; exact hB
  · rw [Go.ConcR.ofEvent_mk]; exact hB
theorem BkR.norel {e:Event} (h:BkR Wg e) (a:Addr):MemAct.ofEvent e ≠ .mark (.release a):=by
  rcases h with (h1 | h1 | ⟨a,wr,rfl,ha⟩) | rfl
  · rw [ofEvent_loc_mark h1]; simp
  · rw [ofEvent_loc_mark h1]; simp
  · rw [Go.ConcR.ofEvent_cell]; simp
  · rw [Go.ConcR.ofEvent_mk]; simp
theorem libB (S:gB P ty Wg C n fv tv Fin Shun base gs w t j D q ow fr l bl tr rem st sm) (hk:k < j) (hg:gs[base + k]? = some g) (hr:(D k).run = false) (htr:(D k).tr = .leaf) {wd':WD} (hgo:stepG P false g w = .go g' w' es)
    (hA:Aside Wg w w') (hwg:WgAt ty Wg w' st' sm') (hbk:∀ e ∈ es,BkR Wg e) (hL:LibW P ty Wg C n tv k wd' g' w') (hdeaf:deafBehind (D k).wd.deaf es = wd'.deaf)
    (hrel:wd'.stage ≤ 6→∃ r,RelBy (stA Wg) (t ++ MemOp.ofEvents (base + k) g.frame.fn g.frame.place es) (base + k) r) (hhas:wd'.stage ≤ 6→Has C k tv w)
    (hmode:∀ bl',(bl' = bl ∨ (bl = true ∧ bl' = false))→(mayWake P g = true→g'.status = .running→bl' = false)→ConcN.Mode j (upd (wds D) k wd') (dq l bl') st' sm')
    (hV:cnt wd' ≤ cnt (D k).wd) (hlt:wd'.stage < (D k).wd.stage ∨ (wd'.stage = (D k).wd.stage ∧ wd'.fuel < (D k).wd.fuel)) :
    ∃ m' ops μ',runT P (crowd gs w sl) (base + k) = (.next m',ops) ∧ rMu μ' (rem,(muL tr D j,(sumTo base q,if bl then 0 else 1))) ∧ lj P ty Wg C n fv tv Fin Shun base μ' m' (t ++ ops):=by
  have h:=S.com
  have s:∀ ex,gT Wg C n ex w w':=fun ex=>.of_wg hA h.ne
  have sc:∀ i,w'.cell? ⟨C,i,none⟩ = w.cell? ⟨C,i,none⟩:=fun i=>(s (fun _=>False)).cell i id
  refine workerB (x':=⟨.leaf,false,wd',(D k).s⟩) (ow':=ow) (st':=st') (sm':=sm') S hk hg hgo ?_ (fun u0 M=>⟨_,bT.at u0 _,M.lib (s (fun _=>False))⟩) hwg hmode hV ?_
  · refine h.stepW hk hg (Nat.le_of_eq hA.size.symm) (fun _ _=>rfl) (fun b hb=>.inl (h.owf b hb)) (fun i hi hne g0 hw0=>hw0.lib (s (fun _=>False)) h.pay id ⟨_,_,hwg⟩) (.inr ⟨rfl,rfl,hL⟩) rfl
      (fun e he=>⟨rfl,fun x hx=>.inl ((hbk e he).touch hx)⟩) (fun e he=>(hbk e he).low (by rw [hA.size]; exact h.ltW)) (fun e he a=>(hbk e he).norel a) hdeaf hrel (fun i hi h6=>?_) (fun i hi hin=>(sc i).trans (h.un i hi hin)) ((s (fun _=>False)).pay h.pay) (fun b hb=>hA.block b fun e=>S.oI _ e hb)
    refine (sc i).trans ?_
    by_cases e:i = k
    · subst e; rw [upd_same] at h6; exact hhas h6
    · rw [upd_ne D _ e] at h6; exact h.has i hi h6
  · show Prod.Lex _ _ (Tr.leaf,_) ((D k).tr,_)
    rw [htr]
    refine Prod.Lex.right _ ?_
    rcases hlt with h1 | ⟨h1,h2⟩
    · exact Prod.Lex.left _ _ h1
    · show Prod.Lex _ _ (wd'.stage,_) _
      rw [h1]
      exact Prod.Lex.right _ h2
set_option maxHeartbeats 1600000 in
theorem stepLib (S:gB P ty Wg C n fv tv Fin Shun base gs w t j D q ow fr l bl tr rem st sm) (hn:n < 2147483648) (hk:k < j) (hg:gs[base + k]? = some g) (hr:(D k).run = false) (htr:(D k).tr = .leaf) (hL:LibW P ty Wg C n tv k (D k).wd g w) (hrun:g.status = .running) :
    ∃ m' ops μ',runT P (crowd gs w sl) (base + k) = (.next m',ops) ∧ rMu μ' (rem,(muL tr D j,(sumTo base q,if bl then 0 else 1))) ∧ lj P ty Wg C n fv tv Fin Shun base μ' m' (t ++ ops):=by
  have h:=S.com
  have hwg:=S.wg
  have hmode:=S.mode
  have hdk:Deaf t (base + k) = (D k).wd.deaf:=h.deafW k hk
  have hVj:Vc j (wds D) ≤ j:=Vc_le j (wds D)
  have hjn:=S.wf.le
  have hpend:∀ tag,tag = dq l bl→j + pend tag ≤ n:=fun tag e=>by
    subst e
    rcases S.wf with ⟨r,s,rfl,h⟩ | ⟨h,h1⟩
    · simp only [dq,pend]; split <;> omega
    · rcases h1 with rfl | ⟨b,rfl⟩ | ⟨b,rfl⟩ | rfl | rfl | rfl | rfl <;> (simp only [dq,pend]; try omega)
      cases bl <;> simp [pend] <;> omega
  have re:∀ {wd':WD} {st' sm':Int},ConcN.Mode j (upd (wds D) k wd') (dq l bl) st' sm'→∀ bl',(bl' = bl ∨ (bl = true ∧ bl' = false))→(mayWake P g = true→True→True)→ConcN.Mode j (upd (wds D) k wd') (dq l bl') st' sm':=fun hm bl' hbl _=>hm.retag (tag_re hbl S.blk4)
  have hwd:wds D k = (D k).wd:=rfl
  have idle:∀ {g':Goroutine} {m':Nat},stepG P false g w = .go g' w #[]→LibW P ty Wg C n tv k ⟨(D k).wd.stage,m',(D k).wd.deaf⟩ g' w→m' < (D k).wd.fuel→((D k).wd.stage ≤ 6→∃ r,RelBy (stA Wg) t (base + k) r) →
      ∃ m' ops μ',runT P (crowd gs w sl) (base + k) = (.next m',ops) ∧ rMu μ' (rem,(muL tr D j,(sumTo base q,if bl then 0 else 1))) ∧ lj P ty Wg C n fv tv Fin Shun base μ' m' (t ++ ops):=fun {g' m'} hgo hL' hm hrl =>
    libB S hk hg hr htr hgo (.refl Wg w) hwg (by simp) hL' rfl (fun h6=>let ⟨r,hr⟩:=hrl h6; ⟨r,hr.book (Wg:=Wg) hdk _ _ (es:=#[]) (by simp) (by simp)⟩) (fun h6=>h.has k hk h6)
      (fun bl' hbl _=>re (hmode.same m' (D k).wd.deaf) bl' hbl (fun _ _=>trivial)) (Nat.le_of_eq (by simp only [cnt])) (.inr ⟨rfl,hm⟩)
  rcases hL with ⟨h7,hd0,hG⟩ | ⟨h6,hW⟩
  · rcases Goes.cases hG with hstop | ⟨m',hm',hstep⟩
    · obtain ⟨_,hhas,g',hgo,m2,hk1⟩:=hstop w (RW.refl w)
      refine libB (wd':=⟨6,m2,0⟩) S hk hg hr htr hgo (.refl Wg w) hwg (by intro e he; simp at he; subst he; exact .inr rfl) (.inr ⟨by simp,.k1 hk1⟩) (by rw [hd0]; rfl) (fun _=>⟨t.size,RelBy.new (by rw [hdk,hd0]) _ _⟩) (fun _=>by simpa using hhas)
        (fun bl' hbl _=>re (hmode.counted hk (by rw [hwd]; omega) (.inl rfl) _ _) bl' hbl (fun _ _=>trivial)) (by simp [cnt,h7]) (.inl (by simp only; omega))
    · obtain ⟨g',w',es,hgo,⟨rfl,rfl⟩,hg'⟩:=hstep w (RW.refl w)
      exact idle (m':=m') hgo (.inl ⟨h7,hd0,hg'⟩) (by omega) (fun h6=>by omega)
  · obtain ⟨r0,hr0⟩:=h.rel k hk h6
    have idle':∀ {g':Goroutine} {m':Nat},stepG P false g w = .go g' w #[]→WSit P ty Wg C n O0 O0 0 (k + 1) tv (D k).wd.stage m' (D k).wd.deaf g' w→m' < (D k).wd.fuel →
        ∃ m' ops μ',runT P (crowd gs w sl) (base + k) = (.next m',ops) ∧ rMu μ' (rem,(muL tr D j,(sumTo base q,if bl then 0 else 1))) ∧ lj P ty Wg C n fv tv Fin Shun base μ' m' (t ++ ops):=fun {g' m'} hgo hs hm=>idle (m':=m') hgo (.inr ⟨h6,hs⟩) hm (fun _=>⟨r0,hr0⟩)
    have bookG:∀ {g':Goroutine} {w':World} {es:Array Event} {wd':WD} {st' sm':Int},stepG P false g w = .go g' w' es→Aside Wg w w'→WgAt ty Wg w' st' sm'→(∀ e ∈ es,Bk Wg e) →
        (∀ jx e,es[jx]? = some e→(MemAct.ofEvent e).touch? = none ∨ 0 < deafBehind (D k).wd.deaf (es.extract 0 jx))→WSit P ty Wg C n O0 O0 0 (k + 1) tv wd'.stage wd'.fuel wd'.deaf g' w'→wd'.stage ≤ 6→deafBehind (D k).wd.deaf es = wd'.deaf →
        (∀ bl',(bl' = bl ∨ (bl = true ∧ bl' = false))→(mayWake P g = true→g'.status = .running→bl' = false)→ConcN.Mode j (upd (wds D) k wd') (dq l bl') st' sm')→cnt wd' ≤ cnt (D k).wd→(wd'.stage < (D k).wd.stage ∨ (wd'.stage = (D k).wd.stage ∧ wd'.fuel < (D k).wd.fuel)) →
        ∃ m' ops μ',runT P (crowd gs w sl) (base + k) = (.next m',ops) ∧ rMu μ' (rem,(muL tr D j,(sumTo base q,if bl then 0 else 1))) ∧ lj P ty Wg C n fv tv Fin Shun base μ' m' (t ++ ops) :=
      fun hgo hA hwg' hbk hd hs h6' hdd hmd hV hlt=>libB S hk hg hr htr hgo hA hwg' (fun e he=>.inl (hbk e he)) (.inr ⟨h6',hs⟩) hdd (fun _=>⟨r0,hr0.book hdk _ _ hbk hd⟩) (fun _=>h.has k hk h6) hmd hV hlt
    have book:∀ {g':Goroutine} {w':World} {es:Array Event} {wd':WD} {st' sm':Int},stepG P false g w = .go g' w' es→Aside Wg w w'→WgAt ty Wg w' st' sm'→(∀ e ∈ es,Bk Wg e) →
        (∀ jx e,es[jx]? = some e→(MemAct.ofEvent e).touch? = none ∨ 0 < deafBehind (D k).wd.deaf (es.extract 0 jx))→WSit P ty Wg C n O0 O0 0 (k + 1) tv wd'.stage wd'.fuel wd'.deaf g' w'→wd'.stage ≤ 6→deafBehind (D k).wd.deaf es = wd'.deaf →
        ConcN.Mode j (upd (wds D) k wd') (dq l bl) st' sm'→cnt wd' ≤ cnt (D k).wd→(wd'.stage < (D k).wd.stage ∨ (wd'.stage = (D k).wd.stage ∧ wd'.fuel < (D k).wd.fuel)) →
        ∃ m' ops μ',runT P (crowd gs w sl) (base + k) = (.next m',ops) ∧ rMu μ' (rem,(muL tr D j,(sumTo base q,if bl then 0 else 1))) ∧ lj P ty Wg C n fv tv Fin Shun base μ' m' (t ++ ops) :=
      fun hgo hA hwg' hbk hd hs h6' hdd hmd hV hlt=>bookG hgo hA hwg' hbk hd hs h6' hdd (fun bl' hbl _=>re hmd bl' hbl (fun _ _=>trivial)) hV hlt
    generalize hst:(D k).wd.stage = s at hW
    generalize hfu:(D k).wd.fuel = m at hW
    generalize hde:(D k).wd.deaf = dd at hW
    rw [hst,hde] at bookG book
    rw [hfu] at bookG book idle'
    rw [hst,hde] at idle'
    have df2:∀ jx e,(#[rd (stA Wg),wr (stA Wg)]:Array Event)[jx]? = some e→(MemAct.ofEvent e).touch? = none ∨ 0 < deafBehind 1 ((#[rd (stA Wg),wr (stA Wg)]:Array Event).extract 0 jx):=by
      intro jx e he
      match jx,he with
      | 0,_=>exact .inr (by simp [deafBehind])
      | 1,_=>exact .inr (by simp [deafBehind,rd])
      | jx + 2,he=>simp at he
    have df1:∀ (x:Event),x.loc ≠ .mark .disable→∀ jx e,(#[x]:Array Event)[jx]? = some e→(MemAct.ofEvent e).touch? = none ∨ 0 < deafBehind 1 ((#[x]:Array Event).extract 0 jx):=by
      intro x _ jx e he
      match jx,he with
      | 0,_=>exact .inr (by simp [deafBehind])
      | jx + 1,he=>simp at he
    cases hW with
    | r0 _=>omega
    | k1 h1 =>
      rcases Goes.cases h1 with hstop | ⟨m',rfl,hstep⟩
      · obtain ⟨_,g',hgo,m2,hk1⟩:=hstop w (RW.refl w)
        exact book (wd':=⟨5,m2,1⟩) hgo (.refl Wg w) hwg bk_dis (by intro jx e he; exact .inl (by have:=Array.mem_of_getElem? he; simp at this; subst this; rfl)) (.d1 hk1) (by simp) rfl
          (hmode.counted hk (by rw [hwd]; omega) (.inr rfl) _ _) (by simp [cnt,hst]) (.inl (by simp only; omega))
      · obtain ⟨g',w',es,hgo,⟨rfl,rfl⟩,hg'⟩:=hstep w (RW.refl w)
        exact idle' hgo (.k1 hg') (by omega)
    | d1 h1 =>
      rcases Goes.cases h1 with hstop | ⟨m',rfl,hstep⟩
      · obtain ⟨_,hall⟩:=hstop w (RW.refl w)
        have hc1:cnt (wds D k) = 1:=by simp [cnt,hwd,hst]
        have hc1':cnt (D k).wd = 1:=hc1
        have hV1:1 ≤ Vc j (wds D):=by have:=le_sumTo (f:=fun x=>cnt (wds D x)) hk; simp only [Vc]; omega
        have hq0:∀ q,cnt (⟨1,q,1⟩:WD) = 0:=fun _=>rfl
        have opq:∀ q,OpenSt j (wds D)→OpenSt j (upd (wds D) k ⟨1,q,1⟩):=fun q h a ha=>by
          by_cases e:a = k
          · subst e; rw [upd_same]; simp
          · rw [upd_ne (wds D) _ e]; exact h a ha
        generalize htag:dq l bl = tag at *
        have hpd:=hpend tag rfl
        cases hmode with
        | opn e1 e2 e3 =>
          obtain ⟨v,hv⟩:∃ v,Vc j (wds D) + pend tag = v + 1:=⟨Vc j (wds D) + pend tag - 1,by omega⟩
          rw [hv] at hwg
          have hw1:WgAt ty Wg w (((v:Nat) + 1) * KK + ((0:Nat):Int)) 0:=by simpa using hwg
          obtain ⟨g',hgo,_,hq⟩:=hall v 0 (by omega) (by omega) hw1
          obtain ⟨q,hq⟩:=hq (by omega)
          have hv':Vc j (upd (wds D) k ⟨1,q,1⟩) + pend tag = v:=by have:=Vc_upd (wds D) (⟨1,q,1⟩:WD) hk; have:=hq0 q; omega
          refine book (wd':=⟨1,q,1⟩) hgo (aside_setCell w (stA Wg) _) (hwg.setSt _) bk_rw df2 (.quit hq) (by simp) rfl ?_ (by rw [hc1']; simp [cnt]) (.inl (by simp only; omega))
          have e:((v:Nat):Int) * KK + ((0:Nat):Int) = ((Vc j (upd (wds D) k ⟨1,q,1⟩) + pend tag:Nat):Int) * KK:=by rw [hv']; simp
          rw [e]
          exact .opn e1 (opq q e2) (fun vs ev=>by have:=e3 vs ev; omega)
        | reg e1 e2 e3 =>
          obtain ⟨v,hv⟩:∃ v,Vc j (wds D) = v + 1:=⟨Vc j (wds D) - 1,by omega⟩
          rw [hv] at hwg
          have hw1:WgAt ty Wg w (((v:Nat) + 1) * KK + ((1:Nat):Int)) 0:=by simpa using hwg
          obtain ⟨g',hgo,hl,hq⟩:=hall v 1 (by omega) (by omega) hw1
          by_cases hv0:v = 0
          · subst hv0
            obtain ⟨m2,hk2⟩:=hl ⟨rfl,rfl⟩
            refine book (wd':=⟨4,m2,1⟩) hgo (aside_setCell w (stA Wg) _) (hwg.setSt _) bk_rw df2 (.d2 hk2) (by simp) rfl ?_ (by rw [hc1']; simp [cnt]) (.inl (by simp only; omega))
            have hoth:∀ a,a < j→a ≠ k→(wds D a).stage = 1:=fun a ha e=>by
              have c0:=others_uncounted hk hv hc1 a ha e
              have:=e2 a ha
              simp only [cnt] at c0
              split at c0 <;> omega
            have:=ConcN.Mode.last (j:=j) (D:=upd (wds D) k ⟨4,m2,1⟩) (tag:=tag) k e1 hk (by rw [upd_same]; simp) (fun a ha e=>by rw [upd_ne (wds D) _ e]; exact hoth a ha e)
            rw [upd_same] at this
            simpa using this
          · obtain ⟨q,hq⟩:=hq (by omega)
            have hv':Vc j (upd (wds D) k ⟨1,q,1⟩) = v:=by have:=Vc_upd (wds D) (⟨1,q,1⟩:WD) hk; have:=hq0 q; omega
            refine book (wd':=⟨1,q,1⟩) hgo (aside_setCell w (stA Wg) _) (hwg.setSt _) bk_rw df2 (.quit hq) (by simp) rfl ?_ (by rw [hc1']; simp [cnt]) (.inl (by simp only; omega))
            have e:((v:Nat):Int) * KK + ((1:Nat):Int) = ((Vc j (upd (wds D) k ⟨1,q,1⟩):Nat):Int) * KK + 1:=by rw [hv']; simp
            rw [e]
            exact .reg e1 (opq q e2) (by omega)
        | last L _ e2 e3 e4 =>
          by_cases e:k = L
          · subst e; rw [hwd] at e3; omega
          · have:=e4 k hk e; rw [hwd] at this; omega
        | sema e2=>have:=e2 k hk; rw [hwd] at this; omega
        | fin _ e2=>have:=e2 k hk; rw [hwd] at this; omega
      · obtain ⟨g',w',es,hgo,⟨rfl,rfl⟩,hg'⟩:=hstep w (RW.refl w)
        exact idle' hgo (.d1 hg') (by omega)
    | d2 h1 =>
      rcases Goes.cases h1 with hstop | ⟨m',rfl,hstep⟩
      · obtain ⟨_,hx⟩:=hstop w (RW.refl w)
        obtain ⟨hW3,hoth,rfl,rfl⟩:=hmode.isLast hk (by rw [hwd]; omega)
        rw [hwd] at hwg
        simp only [hst] at hwg
        obtain ⟨g',hgo,m2,hk2⟩:=hx (by simpa using hwg)
        refine book (wd':=⟨3,m2,1⟩) hgo (.refl Wg w) hwg bk_rd (df1 _ (by simp [rd])) (.d3 hk2) (by simp) rfl ?_ (by simp [cnt,hst]) (.inl (by simp only; omega))
        have:=ConcN.Mode.last (j:=j) (D:=upd (wds D) k ⟨3,m2,1⟩) (tag:=dq l bl) k hW3 hk (by rw [upd_same]; simp) (fun a ha e=>by rw [upd_ne (wds D) _ e]; exact hoth a ha e)
        rw [upd_same] at this
        simpa using this
      · obtain ⟨g',w',es,hgo,⟨rfl,rfl⟩,hg'⟩:=hstep w (RW.refl w)
        exact idle' hgo (.d2 hg') (by omega)
    | d3 h1 =>
      rcases Goes.cases h1 with hstop | ⟨m',rfl,hstep⟩
      · obtain ⟨_,hx⟩:=hstop w (RW.refl w)
        obtain ⟨hW3,hoth,rfl,rfl⟩:=hmode.isLast hk (by rw [hwd]; omega)
        rw [hwd] at hwg
        simp only [hst] at hwg
        obtain ⟨g',hgo,m2,hk2⟩:=hx (by simpa using hwg)
        refine book (wd':=⟨2,m2,1⟩) hgo (aside_setCell w (stA Wg) _) (hwg.setSt 0) (by intro e he; simp at he; subst he; exact bk_cell _ _ rfl) (df1 _ (by simp [wr])) (.d4 hk2) (by simp) rfl ?_ (by simp [cnt,hst]) (.inl (by simp only; omega))
        have:=ConcN.Mode.last (j:=j) (D:=upd (wds D) k ⟨2,m2,1⟩) (tag:=dq l bl) k hW3 hk (by rw [upd_same]; simp) (fun a ha e=>by rw [upd_ne (wds D) _ e]; exact hoth a ha e)
        rw [upd_same] at this
        simpa using this
      · obtain ⟨g',w',es,hgo,⟨rfl,rfl⟩,hg'⟩:=hstep w (RW.refl w)
        exact idle' hgo (.d3 hg') (by omega)
    | d4 h1 =>
      rcases Goes.cases h1 with hstop | ⟨m',rfl,hstep⟩
      · obtain ⟨_,hmw,hx⟩:=hstop w (RW.refl w)
        obtain ⟨hW3,hoth,rfl,rfl⟩:=hmode.isLast hk (by rw [hwd]; omega)
        rw [hwd] at hwg
        simp only [hst] at hwg
        obtain ⟨g',hgo,q,hq⟩:=hx (by simpa using hwg)
        have hrun':g'.status = .running:=by
          cases q with
          | zero=>exact absurd hq.2 (by decide)
          | succ q=>exact hq.elim (fun x=>absurd x.2 (by decide)) (fun x=>x.1)
        refine bookG (wd':=⟨1,q,1⟩) hgo (aside_setCell w (smA Wg) _) (hwg.setSm 1) (es:=semEvents (smA Wg)) bk_sem ?_ (.quit hq) (by simp) (by simp [deafBehind,semEvents]) ?_ (by simp [cnt,hst]) (.inl (by simp only; omega))
        · intro jx e he
          match jx,he with
          | 0,he=>simp [semEvents] at he; subst he; exact .inl rfl
          | 1,_=>exact .inr (by simp [deafBehind,semEvents])
          | 2,_=>exact .inr (by simp [deafBehind,semEvents])
          | 3,he=>simp [semEvents] at he; subst he; exact .inl rfl
          | jx + 4,he=>simp [semEvents] at he
        · intro bl' hbl hw
          obtain rfl:=hw hmw hrun'
          have e4:l = [4]:=by
            rcases S.wf with ⟨r,s,rfl,_⟩ | ⟨_,h1⟩
            · exact hW3.elim
            · rcases h1 with rfl | ⟨b,rfl⟩ | ⟨b,rfl⟩ | rfl | rfl | rfl | rfl <;> first | rfl | exact hW3.elim
          subst e4
          simp only [if_true]
          exact .sema fun a ha=>by
            by_cases e:a = k
            · subst e; rw [upd_same]
            · rw [upd_ne (wds D) _ e]; exact hoth a ha e
      · obtain ⟨g',w',es,hgo,⟨rfl,rfl⟩,hg'⟩:=hstep w (RW.refl w)
        exact idle' hgo (.d4 hg') (by omega)
    | quit h1 =>
      cases m with
      | zero=>rw [h1.1] at hrun; cases hrun
      | succ q =>
        rcases h1 with ⟨hf,_⟩ | ⟨_,g',es,hmute,hstep,hq⟩
        · rw [hf] at hrun; cases hrun
        · have hbk:∀ e ∈ es,Bk Wg e:=fun e he=>bk_of_mute (hmute e he)
          have hno:∀ jx e,es[jx]? = some e→(MemAct.ofEvent e).touch? = none ∨ 0 < deafBehind dd (es.extract 0 jx):=fun jx e he=>.inl (touch_mute (hmute e (Array.mem_of_getElem? he)))
          refine book (wd':=⟨1,q,deafBehind dd es⟩) (hstep w) (.refl Wg w) hwg hbk hno (.quit hq) (by simp) rfl ?_ (by simp [cnt]) (.inr ⟨rfl,Nat.lt_succ_self q⟩)
          have:=hmode.same (i:=k) q (deafBehind dd es)
          rwa [hwd,hst] at this
end
end Go.Gx
namespace Go.Gx
open Go Go.Conc Go.ConcN
open Go.ConcR (KK wgBlock WgAt stA smA rd wr mk Payload DC0 Bk g_of_ofEvents bk_of_mute ofEvent_loc_mark deafBehind_cons deafBehind_one)
section
variable [Payload] [Bad] {P:Program} {ty:TypeId} {Wg C n:Nat} {fv tv:Value} {Fin:Goroutine→World→Prop} {Shun:Loc→Prop} {base:Nat}
  {gs:Array Goroutine} {w w' u ux':World} {t:Trace} {j k:Nat} {D:Nat→WX} {q ow ow':Nat→Nat} {fr fr' d0:Nat} {l l':List Nat} {bl bl':Bool} {tr tr':Tr} {rem rem':Nat} {st sm st' sm':Int} {g g' a a':Goroutine} {es:Array Event} {sl:Option (Nat × Nat)}
def DoneB (P:Program) (C n:Nat) (tv:Value) (Fin:Goroutine→World→Prop) (m:Machine) (t:Trace):Prop :=
  ∃ gs w sl q Shun' g' v u,m = crowd gs w sl ∧ Fin g' v ∧ bT v u ∧ C < v.heap.size ∧ cx P Shun' t gs q g' (dr u C (.cells (Array.replicate n tv) Payload.ety)) w
theorem vc_lt (hn:n < 2147483648) (S:gB P ty Wg C n fv tv Fin Shun base gs w t j D q ow fr l bl tr rem st sm):Vc j (wds D) ≤ n:=Nat.le_trans (Vc_le j _) S.wf.le
theorem fitsB (hn:n < 2147483648) (S:gB P ty Wg C n fv tv Fin Shun base gs w t j D q ow fr l bl tr rem st sm):FitsL ty Wg l w:=by
  have hV:=vc_lt hn S
  have hj:=Vc_le j (wds D)
  refine ⟨⟨st,sm,S.wg⟩,fun r e=>?_,fun b e=>?_,fun vs e=>?_,fun e=>?_⟩
  · subst e
    obtain ⟨_,h2,h3,_⟩:=S.mode.open_inv trivial
    have hw:=S.wg
    rw [h2,h3] at hw
    refine ⟨Vc j (wds D),?_,by simpa [dq,pend] using hw⟩
    rcases S.wf with ⟨r',s,e,h⟩ | ⟨_,h1⟩
    · omega
    · rcases h1 with e | ⟨b,e⟩ | ⟨b,e⟩ | e | e | e | e <;> cases e
  · subst e
    obtain ⟨_,h2,h3,_⟩:=S.mode.open_inv trivial
    have hw:=S.wg
    rw [h2,h3] at hw
    exact ⟨Vc j (wds D),S.bound b rfl,by omega,by simpa [dq,pend] using hw⟩
  · subst e
    obtain ⟨_,h2,h3,h4⟩:=S.mode.open_inv trivial
    have hw:=S.wg
    rw [h2,h3] at hw
    exact ⟨Vc j (wds D),(h4 vs rfl).1,by omega,by simpa [dq,pend] using hw⟩
  · subst e
    obtain ⟨_,h2,h3⟩:=S.mode.fin_inv trivial
    have hw:=S.wg
    rw [h2,h3] at hw
    exact hw
omit [Payload] in
theorem WfL.sp {r s:Nat} (h:WfL n j [0,r,s]) (s':Nat):WfL n j [0,r,s']:=by
  rcases h with ⟨r',s,e,h⟩ | ⟨_,h1⟩
  · cases e
    exact .inl ⟨_,_,rfl,h⟩
  · rcases h1 with e | ⟨b,e⟩ | ⟨b,e⟩ | e | e | e | e <;> cases e
omit [Payload] in
theorem WfL.jn (h:WfL n j l) (hl:∀ r s,l ≠ [0,r,s]):j = n:=by
  rcases h with ⟨r',s,e,h⟩ | ⟨h,_⟩
  · exact absurd e (hl _ _)
  · exact h
def SaidE (Wg:Nat) (e:Event):Prop:=Bk Wg e ∨ e = ⟨.mark (.read (smA Wg)),false,true⟩ ∨ e = ⟨.mark (.write (smA Wg)),false,true⟩
theorem SaidE.touch {e:Event} (h:SaidE Wg e) {x:Touch} (hx:(MemAct.ofEvent e).touch? = some x):ShN Wg x.loc ∧ x.kind ≠ .plain:=by
  rcases h with h | rfl | rfl
  · obtain ⟨h1,h2,_⟩:=BkR.touch (.inl h) hx
    exact ⟨h1,h2⟩
  · simp only [MemAct.ofEvent,MemAct.touch?,Option.some.injEq] at hx
    subst hx
    exact ⟨⟨_,rfl,rfl⟩,by simp⟩
  · simp only [MemAct.ofEvent,MemAct.touch?,Option.some.injEq] at hx
    subst hx
    exact ⟨⟨_,rfl,rfl⟩,by simp⟩
theorem SaidE.low {e:Event} (h:SaidE Wg e) {B:Nat} (hB:Wg < B):(MemAct.ofEvent e).low B:=by
  rcases h with h | rfl | rfl
  · exact BkR.low (.inl h) hB
  · exact hB
  · exact hB
theorem SaidE.norel {e:Event} (h:SaidE Wg e) (a:Addr):MemAct.ofEvent e ≠ .mark (.release a):=by
  rcases h with h | rfl | rfl
  · exact BkR.norel (.inl h) a
  · simp [MemAct.ofEvent]
  · simp [MemAct.ofEvent]
theorem jE (S:gB P ty Wg C n fv tv Fin Shun base gs w t j D q ow fr l bl tr rem st sm) (h0:gs[0]? = some a) (hgo:stepG P true a w = .go a' w' es) (hA:Aside Wg w w') (hwg:WgAt ty Wg w' st' sm') (hev:∀ e ∈ es,SaidE Wg e)
    (hmain:∀ gs',gs'[0]? = some a'→nD P ty Wg C n fv tv Fin Shun l' bl' gs' w' ow tr' rem' fr) (hwf:WfL n j l') (hdeaf:deafBehind (fK l) es = fK l') (hmode:ConcN.Mode j (wds D) (dq l' bl') st' sm') (hbound:∀ b,l' = [2,b]→Vc j (wds D) ≤ b)
    (hlt:rMu (rem',(muL tr' D j,(sumTo base q,if bl' then 0 else 1))) (rem,(muL tr D j,(sumTo base q,if bl then 0 else 1)))) :
    ∃ m' ops μ',runT P (crowd gs w sl) 0 = (.next m',ops) ∧ rMu μ' (rem,(muL tr D j,(sumTo base q,if bl then 0 else 1))) ∧ lj P ty Wg C n fv tv Fin Shun base μ' m' (t ++ ops):=by
  have h:=S.com
  have hrun:=runT_crowd_go (P:=P) (sl:=sl) (i:=0) h0 (show stepG P (0 == 0) a w = _ from hgo)
  have s:gT Wg C n (fun _=>False) w w':=.of_wg hA h.ne
  have hp:=h.pos
  refine ⟨_,_,(rem',(muL tr' D j,(sumTo base q,if bl' then 0 else 1))),hrun,hlt,_,w',sl,j,D,q,ow,fr,l',bl',tr',rem',st',sm',rfl,⟨?_,hmain _ (get_map_set_same _ _ _ (by rw [h.size]; omega)),hwf,hwg,hmode,hbound,S.oI⟩,rfl⟩
  rw [← hdeaf]
  exact h.step0 (Nat.le_of_eq hA.size.symm) (fun i hi g0 hw0=>hw0.lib s h.pay id ⟨_,_,hwg⟩) (fun e he=>⟨rfl,fun x hx=>.inl ((hev e he).touch hx)⟩) (fun e he=>(hev e he).low (by rw [hA.size]; exact h.ltW)) (fun e he a=>(hev e he).norel a)
    (fun i hi h6=>(s.cell i id).trans (h.has i hi h6)) (fun i hi hin=>(s.cell i id).trans (h.un i hi hin)) (s.pay h.pay) (fun b hb=>hA.block b fun e=>S.oI _ e hb)
theorem mainK {gm:Goroutine} (hn:n < 2147483648) (S:gB P ty Wg C n fv tv Fin Shun base gs w t j D q ow fr l false tr rem st sm) (h0:gs[0]? = some gm) (hm:eN Wg C Shun ow l w u) (hgo:stepG P true gm w = .go g' w' es) (hg':g'.status = .running) (hR:Rel ty Wg n l l' w w' es)
    (hT:RunT (XB P ty Wg n) P true (pmM fr) fr (TM P ty Wg C n fv tv Fin rem fr) tr' g' (dr u Wg (gh l'))) (hsub:Tr.Sub tr' tr) :
    ∃ m' ops μ',runT P (crowd gs w sl) 0 = (.next m',ops) ∧ rMu μ' (rem,(muL tr D j,(sumTo base q,if (false:Bool) then 0 else 1))) ∧ lj P ty Wg C n fv tv Fin Shun base μ' m' (t ++ ops):=by
  have hlt:rMu (rem,(muL tr' D j,(sumTo base q,if (false:Bool) then 0 else 1))) (rem,(muL tr D j,(sumTo base q,if (false:Bool) then 0 else 1))):=Prod.Lex.right _ (Prod.Lex.left _ _ (.head (Prod.Lex.left _ _ hsub)))
  have hM:∀ {w':World},gT Wg C n (fun _=>False) w w'→∀ gs':Array Goroutine,gs'[0]? = some g'→nD P ty Wg C n fv tv Fin Shun l' false gs' w' ow tr' rem fr:=fun {w'} s gs' h=>by
    have hWl:Wg < u.heap.size:=aS hm.hW
    exact ⟨g',dr u Wg (gh l'),dr (u.at w'.drawn) Wg (gh l'),by simpa using h,hg',hT,setG_grow (bT.at u _) hWl,(hm.lib s).dr l' S.com.ne S.oI,fun e=>by cases e⟩
  have hwg:=S.wg
  have hmode:=S.mode
  have hV:=vc_lt hn S
  have kk:∀ a b:Nat,(a:Int) * KK = (b:Int) * KK→a = b:=fun a b e=>by simp only [KK] at e; omega
  cases hR with
  | @dis r =>
    exact jE S h0 hgo (.refl Wg w) hwg (fun e he=>.inl (bk_dis e he)) (hM (.refl w)) (S.wf.sp _)
      (by simp [fK,deafBehind,mk]) (hmode.reopen trivial trivial rfl (by simp [dq])) (fun b e=>by cases e) hlt
  | @add r c _ hc =>
    obtain ⟨ho,rfl,rfl,_⟩:=hmode.open_inv trivial
    have e1:=(hwg.unique hc).1
    have ec:Vc j (wds D) = c:=kk _ _ (by simpa [dq,pend] using e1)
    subst ec
    refine jE (sm':=0) (st':=(((Vc j (wds D):Nat):Int) + 1) * KK) S h0 hgo (aside_setCell w (stA Wg) _) (hwg.setSt _) (fun e he=>.inl (bk_rw e he)) (hM (.of_wg (aside_setCell w (stA Wg) _) S.com.ne)) (S.wf.sp _)
      (by simp [fK,deafBehind,rd,wr]) ?_ (fun b e=>by cases e) hlt
    have e:(((Vc j (wds D):Nat):Int) + 1) * KK = ((Vc j (wds D) + pend (.sp r 3):Nat):Int) * KK:=by simp [pend]
    rw [e]
    exact .opn trivial ho (by simp [dq])
  | said he =>
    refine jE S h0 hgo (.refl Wg w) hwg (fun e he'=>by rw [Array.mem_singleton] at he'; subst he'; exact .inr he) (hM (.refl w)) S.wf ?_ hmode S.bound hlt
    rcases he with rfl | rfl <;> simp [deafBehind]
  | @en r =>
    exact jE S h0 hgo (.refl Wg w) hwg (fun e he=>.inl (bk_en e he)) (hM (.refl w)) (S.wf.sp _)
      (by simp [fK,deafBehind,mk]) (hmode.reopen trivial trivial rfl (by simp [dq])) (fun b e=>by cases e) hlt
  | wdis =>
    have ej:j = n:=S.wf.jn (by simp)
    exact jE S h0 hgo (.refl Wg w) hwg (fun e he=>.inl (bk_dis e he)) (hM (.refl w)) (.inr ⟨ej,.inr (.inl ⟨_,rfl⟩)⟩)
      (by simp [fK,deafBehind,mk]) (hmode.reopen trivial trivial rfl (by simp [dq])) (fun b e=>by cases e; exact hV) hlt
  | @ld0 b _ hc =>
    have ej:j = n:=S.wf.jn (by simp)
    obtain ⟨ho,rfl,rfl,_⟩:=hmode.open_inv trivial
    have e1:=(hwg.unique hc).1
    have ec:Vc j (wds D) = 0:=by have:=kk (Vc j (wds D) + pend (dq [2,b] false)) 0 (by simpa using e1); omega
    refine jE S h0 hgo (.refl Wg w) hwg (fun e he=>.inl (bk_rd e he)) (hM (.refl w)) (.inr ⟨ej,by simp⟩) (by simp [fK,deafBehind,rd]) ?_ (fun b e=>by cases e) hlt
    have z:((Vc j (wds D) + pend (dq [2,b] false):Nat):Int) * KK = 0:=e1
    rw [z]
    exact .fin trivial (allQuit_of ho ec)
  | @ld b c _ hc h1 h2 =>
    have ej:j = n:=S.wf.jn (by simp)
    obtain ⟨ho,rfl,rfl,_⟩:=hmode.open_inv trivial
    have e1:=(hwg.unique hc).1
    have ec:Vc j (wds D) = c:=kk _ _ (by simpa [dq,pend] using e1)
    exact jE S h0 hgo (.refl Wg w) hwg (fun e he=>.inl (bk_rd e he)) (hM (.refl w)) (.inr ⟨ej,by simp⟩) (by simp [fK,deafBehind,rd])
      (hmode.reopen trivial trivial rfl (fun vs e=>by simp only [dq] at e; cases e; exact ⟨by omega,by omega⟩)) (fun b e=>by cases e) hlt
  | @hit c _ hc =>
    have ej:j = n:=S.wf.jn (by simp)
    obtain ⟨ho,rfl,rfl,h4⟩:=hmode.open_inv trivial
    have e1:=(hwg.unique hc).1
    have ec:Vc j (wds D) = c:=kk _ _ (by simpa [dq,pend] using e1)
    subst ec
    exact jE S h0 hgo (aside_setCell w (stA Wg) _) (hwg.setSt _) (fun e he=>.inl (bk_rw e he)) (hM (.of_wg (aside_setCell w (stA Wg) _) S.com.ne)) (.inr ⟨ej,by simp⟩) (by simp [fK,deafBehind,rd,wr])
      (.reg trivial ho (h4 _ rfl).2) (fun b e=>by cases e) hlt
  | @miss vs c _ hc h1 =>
    have ej:j = n:=S.wf.jn (by simp)
    obtain ⟨ho,rfl,rfl,h4⟩:=hmode.open_inv trivial
    have e1:=(hwg.unique hc).1
    have ec:Vc j (wds D) = c:=kk _ _ (by simpa [dq,pend] using e1)
    exact jE S h0 hgo (.refl Wg w) hwg (fun e he=>.inl (bk_rd e he)) (hM (.refl w)) (.inr ⟨ej,by simp⟩) (by simp [fK,deafBehind,rd])
      (hmode.reopen trivial trivial rfl (by simp [dq])) (fun b e=>by cases e; omega) hlt
  | ld4 =>
    have ej:j = n:=S.wf.jn (by simp)
    obtain ⟨hq,rfl,rfl⟩:=hmode.fin_inv trivial
    exact jE S h0 hgo (.refl Wg w) hwg (fun e he=>.inl (bk_rd e he)) (hM (.refl w)) (.inr ⟨ej,by simp⟩) (by simp [fK,deafBehind,rd]) (.fin trivial hq) (fun b e=>by cases e) hlt
  | enk =>
    have ej:j = n:=S.wf.jn (by simp)
    obtain ⟨hq,rfl,rfl⟩:=hmode.fin_inv trivial
    exact jE S h0 hgo (.refl Wg w) hwg (fun e he=>.inl (bk_en e he)) (hM (.refl w)) (.inr ⟨ej,by simp⟩) (by simp [fK,deafBehind,mk]) (.fin trivial hq) (fun b e=>by cases e) hlt
theorem ok0_evs {e:Event} {s':Nat→Nat} (h:EvS (pmM fr) fr u e) (V:eN Wg C Shun ow l w' u) (hsz:u.heap.size = w'.heap.size):∀ fn pos,(pls Wg C Shun j fr ow s').Ok0 { g:=0,fn,pos,act:=.ofEvent e }:=fun fn pos=>⟨rfl,fun x hx=>by
  rcases h with ⟨a,h1,h2,h3,h4⟩ | ⟨r,h1,h2,h3,h4,h5⟩ | ⟨m,hm,rfl⟩
  · obtain ⟨loc,wr,sy⟩:=e
    simp only at h1 h3 h4
    subst h1 h3
    simp only [ofEvent_cell0,MemAct.touch?,Option.some.injEq] at hx
    subst hx
    rcases h4 with ⟨hv,hw⟩ | ⟨hsp,⟨z,hz⟩,hw⟩
    · have hC:a.block ≠ C:=fun e=>V.notC (e ▸ hv)
      have hW:a.block ≠ Wg:=fun e=>V.notW (e ▸ hv)
      have h0:=V.vis a.block (by omega) hv
      have hS:¬ Shun (.cell a):=fun hS=>(V.hid _ hS).mC hv
      exact .inr ⟨⟨a.block,rfl,hC,hW,h0,hS⟩,fun e=>.inl ⟨a.block,rfl,hC,hW,h0,(hw e).2,hS⟩⟩
    · exact absurd hz (V.gK _ _ _)
  · obtain ⟨loc,wr,sy⟩:=e
    simp only at h1 h4 h5
    subst h1 h4
    have hC:r ≠ C:=fun e=>V.notC (e ▸ h3)
    have hW:r ≠ Wg:=fun e=>V.notW (e ▸ h3)
    have h0:=V.vis r (by omega) h3
    have hS:¬ Shun (.obj r):=fun hS=>by obtain ⟨a,o,h,_⟩:=V.hid _ hS; cases h
    have hxl:x.loc = .obj r ∧ x.write = wr:=by cases wr <;> simp [MemAct.ofEvent,MemAct.touch?] at hx <;> (subst hx; exact ⟨rfl,rfl⟩)
    rw [hxl.1,hxl.2]
    exact .inr ⟨⟨r,rfl,hC,hW,h0,hS⟩,fun e=>.inl ⟨r,rfl,hC,hW,h0,(h5 e).2,hS⟩⟩
  · rcases hm with rfl | ⟨f,rfl⟩ <;> simp [MemAct.ofEvent,MemAct.touch?] at hx⟩
theorem mainP {gm:Goroutine} (S:gB P ty Wg C n fv tv Fin Shun base gs w t j D q ow fr l false tr rem st sm) (h0:gs[0]? = some gm) (hm:eN Wg C Shun ow l w u) (hp:Priv P true (pmM fr) fr gm u w g' ux') (hg':g'.status = .running)
    (hT:RunT (XB P ty Wg n) P true (pmM fr) fr (TM P ty Wg C n fv tv Fin rem fr) tr' g' ux') (hsub:Tr.Sub tr' tr) :
    ∃ m' ops μ',runT P (crowd gs w sl) 0 = (.next m',ops) ∧ rMu μ' (rem,(muL tr D j,(sumTo base q,if (false:Bool) then 0 else 1))) ∧ lj P ty Wg C n fv tv Fin Shun base μ' m' (t ++ ops):=by
  have h:=S.com
  obtain ⟨w',es,hgo,htn,hbs,hev⟩:=hp
  have hsz:w.heap.size ≤ w'.heap.size:=by rw [hm.msk.size,hbs.msk.size]; exact htn.size
  have V':=hm.own htn hbs h.owf
  have Lf:Left Wg C n (fun _=>False) w w':=left_main hm hbs
  have hwg:WgAt ty Wg w' st sm:=S.wg.of_block Lf.wg
  have hrun:=runT_crowd_go (P:=P) (sl:=sl) (i:=0) h0 (show stepG P (0 == 0) gm w = _ from hgo)
  have hpos:=h.pos
  refine ⟨_,_,(rem,(muL tr' D j,(sumTo base q,if (false:Bool) then 0 else 1))),hrun,Prod.Lex.right _ (Prod.Lex.left _ _ (.head (Prod.Lex.left _ _ hsub))),_,w',sl,j,D,q,ow,fr,l,false,tr',rem,st,sm,rfl,⟨?_,?_,S.wf,hwg,S.mode,S.bound,S.oI⟩,rfl⟩
  · rw [← deafBehind_idle (es:=es) (fun e he=>(hev e he).still) (fK l)]
    refine h.step0 hsz (fun i hi g0 hw0=>?_) (fun e he=>ok0_evs (hev e he) V' hbs.msk.size.symm _ _) (fun e he=>by rw [hbs.msk.size]; exact (hev e he).low) (fun e he a=>mg (hev e he) a)
      (fun i hi h6=>(Lf.cell i id h.pay).trans (h.has i hi h6)) (fun i hi hin=>(Lf.cell i id h.pay).trans (h.un i hi hin)) (Lf.pay h.pay) (kq hm.hid hbs)
    refine hw0.other (fun u1 R1=>⟨_,R1.grow (eA u1 w') (R1.toVW.other htn hbs hm.msk (fun _ _=>rfl) (sep_main R1.toVW hm (h.sfr i hi)) (.inl hm.hC))⟩) Lf h.pay id
  · exact ⟨g',ux',ux',by simpa using get_map_set_same (woken P gm g' w') 0 g' (by rw [h.size]; omega),hg',hT,.refl _,V',fun e=>by cases e⟩
theorem spawnV (h:jz P ty Wg C n fv tv Shun base j gs w t D d0 q ow fr) (hm:eN Wg C Shun ow l w u) (hj:j < n) (hSC:∀ a,a.block = C→¬ Shun (.cell a)):VW Wg C Shun ow j w.heap.size w (dr u C (slot j fv)):=by
  have hCl:C < u.heap.size:=by rw [← hm.msk.size]; exact h.ltC
  have ge:∀ b,b ≠ C→(dr u C (slot j fv)).heap[b]? = u.heap[b]?:=fun b hb=>dU (Ne.symm hb)
  have vi:∀ b,Vis (dr u C (slot j fv)) b→b ≠ C ∧ Vis u b:=fun b hv=>by
    have hb:b ≠ C:=fun e=>by
      subst e
      have:=hv _ (cr hCl)
      simp [isP,slot] at this
    exact ⟨hb,fun o ho=>hv o (by rw [ge b hb]; exact ho)⟩
  have sl:∀ (b k:Nat) z,(dr u C (slot j fv)).heap[b]? = some (slot k z)→b = C ∧ k = j ∧ z = fv:=fun b k z hz=>by
    by_cases e:b = C
    · subst e
      rw [cr hCl] at hz
      obtain ⟨rfl,rfl⟩:=ko (Option.some.inj hz)
      exact ⟨rfl,rfl,rfl⟩
    · rw [ge b e] at hz
      exact absurd hz (hm.gK b k z)
  refine ⟨kU hm.nv rfl,⟨by rw [di]; exact hm.msk.size,hm.msk.tape,hm.msk.drawn,hm.msk.os,hm.msk.output,fun b hv=>?_,fun b k z hz=>?_⟩,⟨fv,cr hCl⟩,⟨_,by rw [ge Wg (Ne.symm h.ne)]; exact hm.hW,gh_H l⟩,fun b hb hv=>.inl ⟨hb,hm.vis b hb (vi b hv).2⟩,fun b k z hz=>let ⟨h1,h2,_⟩:=sl b k z hz; ⟨h1,h2⟩,fun l hl=>?_⟩
  · obtain ⟨hb,hv'⟩:=vi b hv
    rw [ge b hb]
    exact hm.msk.vis b hv'
  · obtain ⟨rfl,rfl,rfl⟩:=sl b k z hz
    exact lL h.pay (h.un k (Nat.le_refl _) hj)
  · obtain ⟨a,o,h1,h2,h3⟩:=hm.hid l hl
    subst h1
    exact ⟨a,o,rfl,by rw [ge a.block (fun e=>hSC a e hl)]; exact h2,h3⟩
end
end Go.Gx
namespace Go.Gx
open Go Go.Conc Go.ConcN
open Go.ConcR (KK wgBlock WgAt stA smA rd wr mk Payload DC0 Bk g_of_ofEvents bk_of_mute ofEvent_loc_mark deafBehind_cons deafBehind_one)
section
variable [Payload] [Bad] {P:Program} {ty:TypeId} {Wg C n:Nat} {fv tv:Value} {Fin:Goroutine→World→Prop} {Shun:Loc→Prop} {base:Nat}
  {gs:Array Goroutine} {w w' u ux':World} {t:Trace} {j k:Nat} {D:Nat→WX} {q ow ow':Nat→Nat} {fr fr' d0:Nat} {l l':List Nat} {bl bl':Bool} {tr tr':Tr} {rem rem':Nat} {st sm st' sm':Int} {g g' a a':Goroutine} {es:Array Event} {sl:Option (Nat × Nat)}
theorem allQuit_has (S:gB P ty Wg C n fv tv Fin Shun base gs w t j D q ow fr l bl tr rem st sm) (hq:AllQuit j (wds D)) (hj:j = n):w.heap[C]? = some (.cells (Array.replicate n tv) Payload.ety):=by
  obtain ⟨cs,h1,h2⟩:=S.com.pay
  have:cs = Array.replicate n tv:=by
    apply Array.ext_getElem?
    intro i
    rcases Nat.lt_or_ge i n with hlt | hge
    · have:=S.com.has i (by omega) (by have:=hq i (by omega); simp only [wds] at this; omega)
      simp only [Has,World.cell?,h1] at this
      rw [Array.getElem?_replicate,if_pos hlt]
      simpa using this
    · rw [Array.getElem?_eq_none (by omega),Array.getElem?_eq_none (by simp; omega)]
  rw [h1,this]
theorem mainA {gm:Goroutine} {v:World} (S:gB P ty Wg C n fv tv Fin Shun base gs w t j D q ow fr [7] false tr rem st sm) (h0:gs[0]? = some gm) (hm:eN Wg C Shun ow [7] w u) (hv:bT v u) (hg':g'.status = .running) (hst:∀ w,stepG P true gm w = .go g' w #[mk (.acquire (stA Wg))]) (hF:Fin g' v) (hC:C < v.heap.size) (hSC:∀ a,a.block = C→¬ Shun (.cell a)) :
    ∃ m' ops,runT P (crowd gs w sl) 0 = (.next m',ops) ∧ DoneB P C n tv Fin m' (t ++ ops):=by
  have h:=S.com
  have hp:=h.pos
  have hrun:=runT_crowd_go (P:=P) (sl:=sl) (i:=0) h0 (show stepG P (0 == 0) gm w = _ from hst w)
  obtain ⟨hq,rfl,rfl⟩:=S.mode.fin_inv trivial
  have hj:j = n:=S.wf.jn (by simp)
  have hrow:=allQuit_has S hq hj
  have hCu:C < u.heap.size:=Nat.lt_of_lt_of_le hC hv.size
  have ge:∀ b,b ≠ C→(dr u C (.cells (Array.replicate n tv) Payload.ety)).heap[b]? = u.heap[b]?:=fun b hb=>dU (Ne.symm hb)
  have ho:∀ op ∈ MemOp.ofEvents 0 gm.frame.fn gm.frame.place #[mk (.acquire (stA Wg))],op.g = 0:=g_of_ofEvents
  have hq1:∀ i,i < j→(D i).wd.stage = 1:=fun i hi=>hq i hi
  have gK:∀ (b k:Nat) z,(dr u C (.cells (Array.replicate n tv) Payload.ety)).heap[b]? ≠ some (slot k z):=fun b k z hz=>by
    by_cases e:b = C
    · subst e; rw [cr hCu] at hz; simp [slot] at hz
    · rw [ge b e] at hz; exact hm.gK b k z hz
  refine ⟨_,_,hrun,_,w,sl,fun i=>if i < base then q i else (D (i - base)).wd.fuel,fun l=>Shun l ∨ ShN Wg l,g',v,u,rfl,hF,hv,hC,⟨get_map_set_same _ _ _ (by rw [h.size]; omega),⟨fun i y hi hy=>?_,fun i hi=>?_⟩,?_,?_,fun a=>iL (h.norel a) fun e he=>?_,kU hm.nv rfl,⟨by rw [di]; exact hm.msk.size,hm.msk.tape,hm.msk.drawn,hm.msk.os,hm.msk.output,fun b hv'=>?_,fun b k z hz=>absurd hz (gK b k z)⟩,fun l hl=>?_,gK,fun b hb=>⟨.inl (h.kept b hb).1,(h.kept b hb).2⟩⟩⟩
  · rw [Array.getElem?_setIfInBounds_ne (by omega),Array.getElem?_map] at hy
    obtain ⟨z,hz,rfl⟩:=Option.map_eq_some_iff.1 hy
    rw [Deaf_other t (by omega) _ ho]
    by_cases hb:i < base
    · have hqd:=h.old i z hi hb hz
      rw [woken_quitsD hqd,if_pos hb]
      exact hqd
    · have hlt:=(Array.getElem?_eq_some_iff.1 hz).1
      rw [h.size] at hlt
      obtain ⟨z',hz',hw⟩:=h.wk (i - base) (by omega)
      rw [show base + (i - base) = i by omega] at hz'
      rw [hz] at hz'
      obtain rfl:=Option.some.inj hz'
      rw [hw.woken,if_neg hb]
      have hd:=h.deafW (i - base) (by omega)
      rw [show base + (i - base) = i by omega] at hd
      rw [hd]
      have h1:=hq1 (i - base) (by omega)
      rcases hw with ⟨_,u1,R⟩ | ⟨_,_,hL⟩
      · rw [R.wd] at h1; cases h1
      · rcases hL with ⟨h7,_⟩ | ⟨_,hW⟩
        · omega
        · exact hW.quits h1
  · have hi':base + j ≤ i:=by simpa [h.size] using hi
    rw [Deaf_other t (by omega) _ ho]
    exact Deaf_absent fun a op ha e=>by have:=h.ct.gs a op ha; omega
  · have:=h.ct.acquired (a:=stA Wg) (fun k hk=>h.rel k hk (by have:=hq1 k hk; omega)) (h.norel _) h.deaf0 gm.frame.fn gm.frame.place h.ltW
    exact this
  · rw [show ((gs.map (Go.Conc.woken P gm g' w)).setIfInBounds 0 g').size = gs.size by simp,h.size]
    exact few_evs h.ct.gs (by omega)
  · rw [Array.mem_singleton] at he
    subst he
    simp [mk,MemAct.ofEvent]
  · by_cases e:b = C
    · subst e; rw [cr hCu]; exact hrow
    · rw [ge b e]
      exact hm.msk.vis b fun o ho'=>hv' o (by rw [ge b e]; exact ho')
  · rcases hl with hl | ⟨a,h1,h2⟩
    · obtain ⟨a,o,h1,h2,h3⟩:=hm.hid l hl
      subst h1
      exact ⟨a,o,rfl,by rw [ge a.block (fun e=>hSC a e hl)]; exact h2,h3⟩
    · subst h1
      exact ⟨a,_,rfl,by rw [h2,ge Wg (Ne.symm h.ne)]; exact hm.hW,gh_H _⟩
theorem stepMain {gm:Goroutine} (hn:n < 2147483648) (hSC:∀ a,a.block = C→¬ Shun (.cell a)) (S:gB P ty Wg C n fv tv Fin Shun base gs w t j D q ow fr l bl tr rem st sm) (h0:gs[0]? = some gm) (hrun:gm.status = .running)
    (hCv:∀ gm' v',Fin gm' v'→C < v'.heap.size) :
    (∃ m' ops,runT P (crowd gs w sl) 0 = (.next m',ops) ∧ DoneB P C n tv Fin m' (t ++ ops)) ∨
    ∃ m' ops μ',runT P (crowd gs w sl) 0 = (.next m',ops) ∧ rMu μ' (rem,(muL tr D j,(sumTo base q,if bl then 0 else 1))) ∧ lj P ty Wg C n fv tv Fin Shun base μ' m' (t ++ ops):=by
  have h:=S.com
  obtain ⟨gm',v,u,e0,e1,hT,hg,hm,hb⟩:=S.main
  cases bl with
  | true =>
    simp only [if_true] at e0
    rw [h0] at e0
    rw [Option.some.inj e0] at hrun
    cases hrun
  | false =>
    simp only [Bool.false_eq_true,if_false] at e0
    rw [h0] at e0
    obtain rfl:=Option.some.inj e0
    have hWv:∀ {l1:List Nat},v.heap[Wg]? = some (gh l1)→l = l1:=fun hv=>gh_get hm.hW (by rw [hg.old _ (aS hv)]; exact hv)
    rcases hT.cases with ⟨rfl,hstop⟩ | ⟨_,b1,hb1,hst⟩
    · have acq:AtAcqX P Wg Fin gm v→∃ m' ops,runT P (crowd gs w sl) 0 = (.next m',ops) ∧ DoneB P C n tv Fin m' (t ++ ops):=fun ⟨_,hv,g',hg',hst,hF⟩=>by
        obtain rfl:=hWv hv
        exact mainA S h0 hm hg hg' hst hF (hCv _ _ hF) hSC
      match rem,hstop with
      | 0,hstop=>exact .inl (acq hstop)
      | 1,.inl hstop=>exact .inl (acq hstop)
      | 1,.inr ⟨hv,hB,g',hg',hst,hnext⟩ =>
        obtain rfl:=hWv hv
        have ej:j = n:=S.wf.jn (by simp)
        have hWl:Wg < u.heap.size:=aS hm.hW
        have hmode:=S.mode
        have hwg:=S.wg
        have held:sm = 0→ConcN.Mode j (wds D) .blk st 0→∃ m' ops μ',runT P (crowd gs w sl) 0 = (.next m',ops) ∧ rMu μ' (1,(muL .leaf D j,(sumTo base q,if (false:Bool) then 0 else 1))) ∧ lj P ty Wg C n fv tv Fin Shun base μ' m' (t ++ ops):=fun es hmd=>by
          subst es
          exact jE (l':=[4]) (bl':=true) (tr':=.leaf) (rem':=1) (es:=#[]) S h0 (hB.2.2 w ⟨st,hwg⟩) (.refl Wg w) hwg (by simp) (fun gs' hgs'=>⟨gm,v,u,by simpa using hgs',e1,hT,hg,hm,fun _=>⟨rfl,hB⟩⟩) S.wf rfl hmd (fun b e=>by cases e) (Prod.Lex.right _ (Prod.Lex.right _ (Prod.Lex.right _ (by decide))))
        have em:ConcN.Mode j (wds D) .w3 st sm:=hmode
        cases em with
        | opn e1 _ _=>exact e1.elim
        | reg h1 h2 h3=>exact .inr (held rfl (.reg trivial h2 h3))
        | last L h1 h2 h3 h4=>exact .inr (held rfl (.last L trivial h2 h3 h4))
        | sema h2 =>
          obtain ⟨tr2,hT2⟩:=(hnext u hg hm.nv).tree
          exact .inr (jE (l':=[5]) (bl':=false) (tr':=tr2) (rem':=0) S h0 (hst w hwg) (aside_setCell w (smA Wg) _) (hwg.setSm 0) (fun e he=>.inl (bk_sem e he))
            (fun gs' hgs'=>⟨g',_,dr (u.at _) Wg (gh [5]),by simpa using hgs',hg',hT2,setG_grow (bT.at u _) hWl,(hm.lib (.of_wg (n:=n) (ex:=fun _=>False) (aside_setCell w (smA Wg) _) h.ne)).dr [5] h.ne S.oI,fun e=>by cases e⟩)
            (.inr ⟨ej,by simp⟩) (by simp [fK,deafBehind,semEvents]) (.fin trivial h2) (fun b e=>by cases e) (Prod.Lex.left _ _ (by decide)))
        | fin e1 _=>exact e1.elim
      | r + 2,⟨_,hv,g',child,hg',hch,hsp,hwk,hnext⟩ =>
        obtain rfl:=hWv hv
        have hWl:Wg < u.heap.size:=aS hm.hW
        obtain ⟨hjr⟩:Nonempty (j + r + 1 = n):=by
          rcases S.wf with ⟨r',s,e,h⟩ | ⟨_,h1⟩
          · cases e; exact ⟨h⟩
          · rcases h1 with e | ⟨b,e⟩ | ⟨b,e⟩ | e | e | e | e <;> cases e
        have ej:n - (r + 1) = j:=by omega
        have hsz:u.heap.size = w.heap.size:=hm.msk.size.symm
        have hrun':=runT_crowd_spawn (P:=P) (sl:=sl) (i:=0) h0 (show stepG P (0 == 0) gm w = _ from hsp u w hg hm.nv hm.msk)
        obtain ⟨ho,rfl,rfl,_⟩:=S.mode.open_inv trivial
        have hwk':=hwk u hg hm.nv
        rw [ej,hsz] at hwk'
        obtain ⟨trc,hTc⟩:=hwk'.tree
        obtain ⟨x',hx1,hx2,hx3,hx4,hx5⟩:=WOK.mk hTc (.refl _) (spawnV h hm (by omega) hSC) ⟨_,_,S.wg⟩
        have hcom':=h.spawn (a':=g') (x:={ g:=0,fn:=gm.frame.fn,pos:=gm.frame.place,act:=.go (base + j) }) (y:={ g:=base + j,fn:=child.frame.fn,pos:=gm.frame.place,act:=.start }) ⟨rfl,rfl⟩ ⟨rfl,rfl⟩ (by omega) hx1 hx2 hx3 hx5
        obtain ⟨tr2,hT2⟩:=(hnext u hg hm.nv).tree
        rw [hsz] at hT2
        have ha':((gs.setIfInBounds 0 g').push child)[0]? = some g':=by
          have:=h.pos
          rw [Array.getElem?_push_lt (by simp [h.size]; omega),← Array.getElem?_eq_getElem,Array.getElem?_setIfInBounds_self_of_lt (by rw [h.size]; omega)]
        have eV:Vc (j + 1) (upd (wds D) j x'.wd) = Vc j (wds D) + 1:=by
          simp only [Vc,sumTo,upd_same]
          rw [sumTo_upd_out (wds D) _ cnt (Nat.le_refl _)]
          simp [cnt,hx2]
        have ho':OpenSt (j + 1) (upd (wds D) j x'.wd):=fun i hi=>by
          by_cases e:i = j
          · subst e; rw [upd_same,hx2]; simp
          · rw [upd_ne (wds D) _ e]; exact ho i (by omega)
        have est:∀ tag',pend tag' = 0→((Vc j (wds D) + pend (dq [0,r,2] false):Nat):Int) * KK = ((Vc (j + 1) (upd (wds D) j x'.wd) + pend tag':Nat):Int) * KK:=fun tag' hp=>by rw [eV,hp]; simp [pend,dq]
        refine .inr ⟨_,_,(r + 1,(muL tr2 (upd D j x') (j + 1),(sumTo base q,if (false:Bool) then 0 else 1))),hrun',Prod.Lex.left _ _ (Nat.lt_succ_self _),_,w,sl,j + 1,upd D j x',q,ow,w.heap.size,nS r,false,tr2,r + 1,_,_,rfl,⟨?_,?_,?_,S.wg,?_,fun b e=>?_,S.oI⟩,rfl⟩
        · have e0:((MemOp.ofEvents 0 gm.frame.fn gm.frame.place #[]).push { g:=0,fn:=gm.frame.fn,pos:=gm.frame.place,act:=MemAct.go gs.size }).push { g:=gs.size,fn:=child.frame.fn,pos:=gm.frame.place,act:=MemAct.start } = #[{ g:=0,fn:=gm.frame.fn,pos:=gm.frame.place,act:=.go (base + j) },{ g:=base + j,fn:=child.frame.fn,pos:=gm.frame.place,act:=.start }]:=by
            rw [h.size]; rfl
          have e1:fK (nS r) = 0:=by cases r <;> rfl
          rw [e1]
          have:=hcom'
          rw [← e0] at this
          exact this
        · refine ⟨g',_,dr u Wg (gh _),by simpa using ha',hg',hT2,.refl _,hm.dr _ h.ne S.oI,fun e=>by cases e⟩
        · cases r with
          | zero=>exact .inr ⟨by omega,.inl rfl⟩
          | succ r=>exact .inl ⟨r,5,rfl,by omega⟩
        · rw [wds_upd]
          cases r with
          | zero=>rw [est .kd rfl]; exact .opn trivial ho' (by simp [dq,nS])
          | succ r=>rw [est (.sp r 5) rfl]; exact .opn trivial ho' (by simp [dq,nS])
        · cases r <;> cases e
    · have hb:b1 = false:=by
        cases b1 with
        | false=>rfl
        | true=>exact (hb1 rfl).elim
      obtain ⟨g',v',tr',hsub,hp,hT'⟩:=hst u w ⟨hg,hm.nv,hm.msk,l,hm.hW,fitsB hn S⟩ (fun _=>trivial)
      rcases hp with hp | ⟨_,l1,l',w',es,hl,hgo,hg',hR,rfl⟩
      · refine .inr (mainP S h0 hm hp ?_ hT' hsub)
        rcases hT'.cases with ⟨_,hs⟩ | ⟨hr,_⟩
        · match rem,hs with
          | 0,hs=>exact hs.1
          | 1,.inl hs=>exact hs.1
          | 1,.inr hs=>exact hs.2.1.1
          | r + 2,hs=>exact hs.1
        · exact hr
      · obtain rfl:=gh_get hm.hW hl
        exact .inr (mainK hn S h0 hm hgo hg' hR hT' hsub)
theorem someB (S:gB P ty Wg C n fv tv Fin Shun base gs w t j D q ow fr l bl tr rem st sm):∃ (i:Nat) (g:Goroutine),gs[i]? = some g ∧ g.status = .running:=by
  obtain ⟨gm,v,u,e0,e1,hT,hg,hm,hb⟩:=S.main
  cases bl with
  | false=>exact ⟨0,gm,by simpa using e0,e1⟩
  | true =>
    obtain ⟨rfl,_⟩:=hb rfl
    have run:∀ i,i < j→(wds D i).stage ≠ 1→∃ (i:Nat) (g:Goroutine),gs[i]? = some g ∧ g.status = .running:=fun i hi h1=>by
      obtain ⟨g,hg,hw⟩:=S.com.wk i hi
      refine ⟨_,g,hg,?_⟩
      rcases hw with ⟨_,u1,R⟩ | ⟨_,_,hL⟩
      · exact R.running
      · rcases hL with ⟨_,_,hG⟩ | ⟨_,hW⟩
        · exact Goes.running (fun _ _ x=>x.1) w (RW.refl w) hG
        · exact hW.running_of h1
    have hmode:ConcN.Mode j (wds D) .blk st sm:=S.mode
    cases hmode with
    | opn h1 _ _=>exact h1.elim
    | reg _ _ h3 =>
      obtain ⟨i,hi,h5⟩:=exists_counted h3
      exact run i hi (by omega)
    | last L _ h2 h3 _=>exact run L h2 (by omega)
    | fin h1 _=>exact h1.elim
theorem awakeB (S:gB P ty Wg C n fv tv Fin Shun base gs w t j D q ow fr l bl tr rem st sm):∀ g ∈ gs,awake g:=by
  intro g hg
  obtain ⟨i,hi⟩:=Array.mem_iff_getElem?.1 hg
  have hp:=S.com.pos
  by_cases h0:i = 0
  · subst h0
    obtain ⟨gm,v,u,e0,e1,_⟩:=S.main
    rw [hi] at e0
    intro tm
    rw [Option.some.inj e0]
    cases bl <;> simp [e1]
  · by_cases hb:i < base
    · exact awake_of ((S.com.old i g (by omega) hb hi).status.elim .inl fun x=>.inr (.inr x))
    · have hlt:=(Array.getElem?_eq_some_iff.1 hi).1
      rw [S.com.size] at hlt
      obtain ⟨z,hz,hw⟩:=S.com.wk (i - base) (by omega)
      rw [show base + (i - base) = i by omega,hi] at hz
      obtain rfl:=Option.some.inj hz
      exact awake_of (hw.status.elim .inl fun x=>.inr (.inr x))
theorem gB.at (S:gB P ty Wg C n fv tv Fin Shun base gs w t j D q ow fr l bl tr rem st sm) (d:Nat):gB P ty Wg C n fv tv Fin Shun base gs (w.at d) t j D q ow fr l bl tr rem st sm:=by
  refine ⟨S.com.at d,?_,S.wf,S.wg,S.mode,S.bound,S.oI⟩
  obtain ⟨gm,v,u,e0,e1,hT,hg,hm,hb⟩:=S.main
  exact ⟨gm,v,u.at d,e0,e1,hT,hg.trans (bT.at u d),hm.lib (w':=w.at d) (n:=n) (ex:=fun _=>False) ⟨rfl,rfl,rfl,rfl,fun _ _ _=>rfl,id,fun _ _=>rfl⟩,hb⟩
theorem stepB (hn:n < 2147483648) (hSC:∀ a,a.block = C→¬ Shun (.cell a)) (hCv:∀ gm' v',Fin gm' v'→C < v'.heap.size) (μ:Mu) (m:Machine) (t:Trace) (hI:lj P ty Wg C n fv tv Fin Shun base μ m t) :
    (∃ m' ops,stepT P m = (.next m',ops) ∧ DoneB P C n tv Fin m' (t ++ ops)) ∨ ∃ m' ops μ',stepT P m = (.next m',ops) ∧ rMu μ' μ ∧ lj P ty Wg C n fv tv Fin Shun base μ' m' (t ++ ops):=by
  obtain ⟨gs,w,sl,j,D,q,ow,fr,l,bl,tr,rem,st,sm,rfl,S,rfl⟩:=hI
  obtain ⟨i,g,d,sl',hi,hg,hst⟩:=crowd_pick (P:=P) (w:=w) (sl:=sl) (awakeB S) (someB S)
  rw [hst]
  have S':=S.at d
  have hp:=S.com.pos
  by_cases h0:i = 0
  · subst h0
    exact stepMain hn hSC S' hi hg hCv
  · refine .inr ?_
    by_cases hb:i < base
    · have hq:=S'.com.old i g (by omega) hb hi
      have hne:(i == 0) = false:=by simp; omega
      cases hqi:q i with
      | zero=>rw [hqi] at hq; rw [hq.1] at hg; cases hg
      | succ k =>
        rw [hqi] at hq
        rcases hq with ⟨hf,_⟩ | ⟨_,g',es,hm,hstp,hq'⟩
        · rw [hf] at hg; cases hg
        have hrunT:=runT_crowd_go (P:=P) (sl:=sl') (i:=i) hi (by rw [hne]; exact hstp (w.at d))
        have hsum:sumTo base (upd q i k) + (k + 1) = sumTo base q + k:=by
          have:=sumTo_upd q k id hb
          simpa [hqi] using this
        obtain ⟨bl',hM,hbl,_⟩:=S'.main.woken (gs':=(gs.map (woken P g g' (w.at d))).setIfInBounds i g') (g:=g) (g':=g') (ow':=ow) (fun u M=>⟨u,.refl u,M⟩) (fun x hx=>by rw [get_map_set _ _ _ _ h0,hx]; rfl)
        exact ⟨_,_,(rem,(muL tr D j,(sumTo base (upd q i k),if bl' then 0 else 1))),hrunT,Prod.Lex.right _ (Prod.Lex.right _ (Prod.Lex.left _ _ (by omega))),_,w.at d,sl',j,D,upd q i k,ow,fr,l,bl',tr,rem,st,sm,rfl,
          ⟨S'.com.slip (by omega) hb hi hq' hm,hM,S'.wf,S'.wg,S'.mode.retag (tag_re hbl S'.blk4),S'.bound,S'.oI⟩,rfl⟩
    · have hlt:=(Array.getElem?_eq_some_iff.1 hi).1
      rw [S.com.size] at hlt
      have hi':gs[base + (i - base)]? = some g:=by rw [show base + (i - base) = i by omega]; exact hi
      obtain ⟨z,hz,hw⟩:=S'.com.wk (i - base) (by omega)
      rw [hi'] at hz
      obtain rfl:=Option.some.inj hz
      have ei:i = base + (i - base):=by omega
      rw [ei]
      rcases hw with ⟨h1,u1,R⟩ | ⟨h1,h2,hL⟩
      · exact stepRun S' (by omega) hi' h1 R
      · exact stepLib S' hn (by omega) hi' h1 h2 hL hg
theorem runB (hn:n < 2147483648) (hSC:∀ a,a.block = C→¬ Shun (.cell a)) (hCv:∀ gm' v',Fin gm' v'→C < v'.heap.size):∀ (μ:Mu) (m:Machine) (t:Trace),lj P ty Wg C n fv tv Fin Shun base μ m t →
    ∃ N m' t',runNT P N m t = (.next m',t') ∧ DoneB P C n tv Fin m' t':=by
  intro μ
  induction μ using rMu_wf.induction with
  | _ μ ih =>
    intro m t hI
    rcases stepB hn hSC hCv μ m t hI with ⟨m',ops,h1,h2⟩ | ⟨m',ops,μ',h1,h2,h3⟩
    · exact ⟨1,m',t ++ ops,by simp [runNT,h1],h2⟩
    · obtain ⟨N,m2,t2,h4,h5⟩:=ih μ' h2 m' (t ++ ops) h3
      exact ⟨N + 1,m2,t2,by simp only [runNT,h1]; exact h4,h5⟩
end
end Go.Gx
namespace Go.Gx
open Go Go.Conc Go.ConcN
open Go.ConcR (KK wgBlock WgAt stA smA rd wr mk Payload DC0 Bk g_of_ofEvents)
section
variable [Payload] [Bad] {P:Program} {ty:TypeId} {Wg C n:Nat} {fv tv:Value} {Fin:Goroutine→World→Prop} {Shun:Loc→Prop}
  {gs:Array Goroutine} {w u:World} {t:Trace} {q:Nat→Nat} {g:Goroutine} {sl:Option (Nat × Nat)}
def gW (u:World) (Wg C:Nat) (l:List Nat):World:=dr (dr u Wg (gh l)) C dummy
theorem hide2_vis {l:List Nat} (hW:Wg < u.heap.size) (hC:C < u.heap.size) (hCW:C ≠ Wg) {b:Nat} (hv:Vis (gW u Wg C l) b):b ≠ C ∧ b ≠ Wg ∧ Vis u b:=by
  have e1:b ≠ C:=fun e=>by
    subst e
    have:=hv _ (cr (by rw [di]; exact hC))
    simp [isP,dummy] at this
  have e2:b ≠ Wg:=fun e=>by
    subst e
    have:=hv (gh l) (by rw [gW,dU hCW]; exact cr hW)
    rw [lJ (gh_H l)] at this; cases this
  exact ⟨e1,e2,fun o ho=>hv o (by rw [gW,dU (Ne.symm e1),dU (Ne.symm e2)]; exact ho)⟩
theorem phaseB (hn:n < 2147483648) (hn1:0 < n) (hB:cx P Shun t gs q g u w) (hr:g.status = .running) (hW:u.heap[Wg]? = some (wgBlock ty 0 0)) (hC:u.heap[C]? = some (.cells (Array.replicate n fv) Payload.ety)) (hCW:C ≠ Wg)
    (hF:∀ l,ShN Wg l→j4 t l) (hCv:∀ gm' v',Fin gm' v'→C < v'.heap.size)
    (hT:cQ (XB P ty Wg n) P true (pmM u.heap.size) u.heap.size (TM P ty Wg C n fv tv Fin (n - 1 + 2) u.heap.size) g (gW u Wg C [0,n - 1,5])) :
    ∃ N m' t',runNT P N (crowd gs w sl) t = (.next m',t') ∧ DoneB P C n tv Fin m' t':=by
  have hWl:=aS hW
  have hCl:=aS hC
  have hWv:Vis u Wg:=fun o ho=>by rw [hW] at ho; cases ho; rfl
  have hCv':Vis u C:=fun o ho=>by rw [hC] at ho; cases ho; rfl
  have hws:=hB.msk.size
  have wW:w.heap[Wg]? = some (wgBlock ty 0 0):=by rw [hB.msk.vis Wg hWv]; exact hW
  have wC:w.heap[C]? = some (.cells (Array.replicate n fv) Payload.ety):=by rw [hB.msk.vis C hCv']; exact hC
  have sW:∀ a,a.block = Wg→¬ Shun (.cell a):=fun a e hs=>(hB.hid _ hs).mC (e ▸ hWv)
  have sC:∀ a,a.block = C→¬ Shun (.cell a):=fun a e hs=>(hB.hid _ hs).mC (e ▸ hCv')
  have ge:∀ b,b ≠ C→b ≠ Wg→(gW u Wg C [0,n - 1,5]).heap[b]? = u.heap[b]?:=fun b h1 h2=>by rw [gW,dU (Ne.symm h1),dU (Ne.symm h2)]
  have gK:∀ (b k:Nat) z,(gW u Wg C [0,n - 1,5]).heap[b]? ≠ some (slot k z):=fun b k z hz=>by
    by_cases e1:b = C
    · subst e1; rw [gW,cr (by rw [di]; exact hCl)] at hz; simp [slot,dummy] at hz
    · by_cases e2:b = Wg
      · subst e2
        rw [gW,dU hCW,cr hWl] at hz
        have:=gh_H [0,n - 1,5]
        rw [Option.some.inj hz] at this
        simp [isH,slot] at this
      · rw [ge b e1 e2] at hz; exact hB.gK b k z hz
  have hm:eN Wg C Shun (fun _=>0) [0,n - 1,5] w (gW u Wg C [0,n - 1,5]):=by
    refine ⟨kU (kU hB.nv rfl) rfl,⟨by rw [gW,di,di]; exact hws,hB.msk.tape,hB.msk.drawn,hB.msk.os,hB.msk.output,fun b hv=>?_,fun b k z hz=>absurd hz (gK b k z)⟩,fun _ _ _=>rfl,gK,⟨dummy,by rw [gW]; exact cr (by rw [di]; exact hCl),rfl⟩,by rw [gW,dU hCW]; exact cr hWl,fun l hl=>?_⟩
    · obtain ⟨h1,h2,h3⟩:=hide2_vis hWl hCl hCW hv
      rw [ge b h1 h2]
      exact hB.msk.vis b h3
    · obtain ⟨a,o,h1,h2,h3⟩:=hB.hid l hl
      subst h1
      exact ⟨a,o,rfl,by rw [ge a.block (fun e=>sC a e hl) (fun e=>sW a e hl)]; exact h2,h3⟩
  have hsz:gs.size ≠ 0:=fun e=>by
    have:=(Array.getElem?_eq_some_iff.1 hB.at0).1
    omega
  have cells:∀ i,i < n→Has C i fv w:=fun i hi=>by simp [Has,World.cell?,wC,hi]
  have hcom:jz P ty Wg C n fv tv Shun gs.size 0 gs w t (fun _=>⟨.leaf,false,⟨0,0,0⟩,0⟩) 0 q (fun _=>0) u.heap.size:=by
    refine ⟨by omega,rfl,fun i x h0 _ hx=>hB.leave.old i x h0 hx,fun i hi=>by omega,?_,hB.norel,hB.past.hears,fun i hi=>by omega,fun i hi=>by omega,fun i hi=>by omega,fun i _ hi=>cells i hi,⟨_,wC,by simp⟩,fun _=>Nat.le_refl _,fun _ _=>rfl,fun i hi=>by omega,by omega,hCW,by omega,by omega,hB.kept⟩
    refine CTP.ofPast hB.past (by omega) hB.few hF (fun l hl=>?_) (fun l hl=>?_)
    · rcases hl with ⟨b,h1,_,_,_,_,h5⟩ | ⟨k,_,rfl⟩
      · exact ⟨by cases l <;> first | rfl | (simp [iB] at h1),h5⟩
      · exact ⟨rfl,sC _ rfl⟩
    · obtain ⟨b,h1,_,_,_,h5⟩:=hl
      exact ⟨by cases l <;> first | rfl | (simp [iB] at h1),h5⟩
  obtain ⟨tr,hT'⟩:=hT.tree
  have hmode:ConcN.Mode 0 (wds (fun _=>(⟨.leaf,false,⟨0,0,0⟩,0⟩:WX))) (dq [0,n - 1,5] false) 0 0:=by
    have:=ConcN.Mode.opn (j:=0) (D:=wds (fun _=>(⟨.leaf,false,⟨0,0,0⟩,0⟩:WX))) (tag:=.sp (n - 1) 5) trivial (fun i hi=>by omega) (fun vs e=>by cases e)
    simpa [Vc,sumTo,pend,dq] using this
  exact runB hn sC hCv _ _ _ ⟨gs,w,sl,0,fun _=>⟨.leaf,false,⟨0,0,0⟩,0⟩,q,fun _=>0,u.heap.size,[0,n - 1,5],false,tr,n - 1 + 2,0,0,rfl,
    ⟨hcom,⟨g,_,_,by simpa using hB.at0,hr,hT',.refl _,hm,(fun e=>by cases e)⟩,.inl ⟨n - 1,5,rfl,by omega⟩,wW,hmode,(fun b e=>by cases e),sW⟩,rfl⟩
end
end Go.Gx
namespace Go.Gx
open Go Go.Conc Go.ConcN
open Go.ConcR (KK wgBlock WgAt stA smA rd wr mk Payload DC0 Bk g_of_ofEvents)
theorem Met.here {X:Ext} {v v1 w:World} (m:Met X v v1 w):Met X v1 v1 w:=⟨.refl _,m.nv,m.msk,m.fits⟩
section
variable (P:Program) (ty:TypeId) (Wg n:Nat) (pm:Nat→Prop) (fr:Nat) (T:Goroutine→World→Prop) (B:World→Prop)
def RZ (w w1:World):Prop:=WgLive ty Wg w→WgLive ty Wg w1
def RT (_ _:World):Prop:=True
def TE (l:List Nat) (g:Goroutine):Prop:=g.status = .running ∧ ∀ v,v.heap[Wg]? = some (gh l)→B v→cQ (XB P ty Wg n) P true pm fr T g v
def StopK (l:List Nat) (g:Goroutine) (w:World):Prop :=
  g.status = .running ∧ (FitsL ty Wg l w→∃ l' g' w' es,stepG P true g w = .go g' w' es ∧ Rel ty Wg n l l' w w' es ∧ TE P ty Wg n pm fr T B l' g')
def StopB (l:List Nat) (g:Goroutine) (w:World):Prop:=StopK P ty Wg n pm fr T B l g w ∨ TE P ty Wg n pm fr T B l g
def StopC (g:Goroutine) (_:World):Prop:=g.status = .running ∧ ∀ v,B v→cQ X0 P true pm fr T g v
end
section
variable {P:Program} {ty:TypeId} {Wg n:Nat} {pm:Nat→Prop} {fr:Nat} {T:Goroutine→World→Prop} {B:World→Prop}
theorem StopB.st {l:List Nat} {g:Goroutine} {w:World} (h:StopB P ty Wg n pm fr T B l g w):g.status = .running:=h.elim (·.1) (·.1)
theorem rz_trans (a b c:World) (h:RZ ty Wg a b) (k:RZ ty Wg b c):RZ ty Wg a c:=k ∘ h
theorem lv {w w1:World} (h:WgLive ty Wg w) (r:RZ ty Wg w w1):WgLive ty Wg w1:=r h
theorem nk (ty:TypeId) (Wg:Nat):∃ w:World,WgLive ty Wg w:=by
  refine ⟨{ (default:World) with heap:=(Array.replicate Wg dummy).push (wgBlock ty 0 0) },0,0,?_⟩
  show ((Array.replicate Wg dummy).push (wgBlock ty 0 0))[Wg]? = _
  have h:=Array.getElem?_push_size (xs:=Array.replicate Wg dummy) (x:=wgBlock ty 0 0)
  rw [Array.size_replicate] at h
  exact h
theorem libX (hB:∀ v v1,B v→bT v v1→B v1) (hBs:∀ v l,B v→B (dr v Wg (gh l))) {l:List Nat}:∀ (m:Nat) (g:Goroutine) (v:World),v.heap[Wg]? = some (gh l)→B v→(∀ w,WgLive ty Wg w→Goes P true (RZ ty Wg) DC0 (StopB P ty Wg n pm fr T B l) m g w) →
    cQ (XB P ty Wg n) P true pm fr T g v
  | 0,g,v,hv,hb,h=>by
    by_cases ht:TE P ty Wg n pm fr T B l g
    · exact ht.2 v hv hb
    · obtain ⟨w0,hw0⟩:=nk ty Wg
      refine .gen (h w0 hw0 w0 id).st false (fun e=>by cases e) fun v1 w mt _=>?_
      obtain ⟨l1,hl1,hf⟩:=mt.fits
      have hv1:v1.heap[Wg]? = some (gh l):=by rw [mt.grow.old _ (aS hv)]; exact hv
      obtain rfl:=gh_get hv1 hl1
      rcases h w hf.live w id with hs | hs
      · obtain ⟨l',g',w',es,h1,h2,h3⟩:=hs.2 hf
        exact ⟨g',dr v1 Wg (gh l'),.inr ⟨rfl,l,l',w',es,hv1,h1,h3.1,h2,rfl⟩,h3.2 _ (cr (aS hv1)) (hBs _ _ (hB _ _ hb mt.grow))⟩
      · exact absurd hs ht
  | m + 1,g,v,hv,hb,h=>by
    by_cases ht:TE P ty Wg n pm fr T B l g
    · exact ht.2 v hv hb
    · obtain ⟨w0,hw0⟩:=nk ty Wg
      have hr:g.status = .running:=by
        rcases h w0 hw0 with h1 | ⟨h1,_⟩
        · exact (h1 w0 id).st
        · exact h1
      refine .gen hr false (fun e=>by cases e) fun v1 w mt _=>?_
      obtain ⟨l1,hl1,hf⟩:=mt.fits
      have hv1:v1.heap[Wg]? = some (gh l):=by rw [mt.grow.old _ (aS hv)]; exact hv
      obtain rfl:=gh_get hv1 hl1
      rcases h w hf.live with h1 | ⟨_,h1⟩
      · rcases h1 w id with hs | hs
        · obtain ⟨l',g',w',es,h1,h2,h3⟩:=hs.2 hf
          exact ⟨g',dr v1 Wg (gh l'),.inr ⟨rfl,l,l',w',es,hv1,h1,h3.1,h2,rfl⟩,h3.2 _ (cr (aS hv1)) (hBs _ _ (hB _ _ hb mt.grow))⟩
        · exact absurd hs ht
      · have h2:=h1 w id
        cases hst:stepG P true g w with
        | go g' w' es =>
          rw [hst] at h2
          obtain ⟨⟨rfl,rfl⟩,hG⟩:=h2
          exact ⟨g',v1,.inl ⟨w',#[],hst,.refl _ _,.refl mt.msk,by simp⟩,libX hB hBs m g' v1 hv1 (hB _ _ hb mt.grow) fun w2 hw2=>Goes.rely rz_trans hG (fun _=>hw2)⟩
        | _=>rw [hst] at h2; exact h2.elim
theorem TE.lib (hB:∀ v v1,B v→bT v v1→B v1) (hBs:∀ v l,B v→B (dr v Wg (gh l))) {l:List Nat} {g:Goroutine} (m:Nat) (h:∀ w,WgLive ty Wg w→Goes P true (RZ ty Wg) DC0 (StopB P ty Wg n pm fr T B l) m g w):TE P ty Wg n pm fr T B l g:=by
  obtain ⟨w0,hw0⟩:=nk ty Wg
  exact ⟨Goes.running (fun _ _ x=>x.st) w0 (fun x=>x) (h w0 hw0),fun v hv hb=>libX hB hBs m g v hv hb h⟩
theorem lib0 (hB:∀ v v1,B v→bT v v1→B v1):∀ (m:Nat) (g:Goroutine) (v:World),B v→(∀ w,Goes P true RT DC0 (StopC P pm fr T B) m g w)→cQ X0 P true pm fr T g v
  | 0,g,v,hb,h=>(h (default:World) (default:World) trivial).2 v hb
  | m + 1,g,v,hb,h=>by
    by_cases ht:StopC P pm fr T B g (default:World)
    · exact ht.2 v hb
    · have hr:g.status = .running:=by
        rcases h default with h1 | ⟨h1,_⟩
        · exact absurd (h1 default trivial) ht
        · exact h1
      refine .go hr fun v1 w mt=>?_
      rcases h w with h1 | ⟨_,h1⟩
      · exact absurd (h1 w trivial) ht
      · have h2:=h1 w trivial
        cases hst:stepG P true g w with
        | go g' w' es =>
          rw [hst] at h2
          obtain ⟨⟨rfl,rfl⟩,hG⟩:=h2
          exact ⟨g',v1,⟨w',#[],hst,.refl _ _,.refl mt.msk,by simp⟩,lib0 hB m g' v1 (hB _ _ hb mt.grow) fun w2=>Goes.rely (fun _ _ _ _ _=>trivial) hG trivial⟩
        | _=>rw [hst] at h2; exact h2.elim
end
end Go.Gx
