/- Part. -/
import Derived.Conc.WgGenN3
import Derived.Test.YtjanhajdmhalaaaGreatM6
set_option linter.unusedVariables false
set_option linter.unusedSimpArgs false
set_option linter.unusedSectionVars false
namespace Go.Gx
open Go Go.Conc Go.ConcN Go.RowKit Go.Conc.Lib Go.ConcR.Gen Go.ConcN.Gen
open Go.ConcR (KK wgBlock WgAt stA smA rd wr mk Payload DC0)
section
variable [Payload] {L:WgLink} {P:Program} {Wg C n:Nat} {pm:Nat→Prop} {fr:Nat} {T:Goroutine→World→Prop} {B:World→Prop}
  {b₀:Frame} {a₀:Act} {ops₀:Array Oper} {i₀:Nat} {rest₀:List Nat} {k₀:List Item} {cs:List Frame}
def StK (P:Program) (g:Goroutine) (w:World):Prop:=g.status = .running ∧ ∃ g',stepG P false g w = .go g' w #[mk .disable]
def StR (P:Program) (R:World→World→Prop) (Wg:Nat) (g:Goroutine) (w:World):Prop:=g.status = .running ∧ ∃ g',stepG P false g w = .go g' w #[mk (.releaseMerge (stA Wg))] ∧ ∃ m,Goes P false R DC0 (StK P) m g' w
section
variable {ty:TypeId} {i:Nat} {v:Value}
theorem st_clash {k:Nat}:∀ (m m':Nat) (g:Goroutine) (w:World),Goes P false (RW ty Wg C n 0 i) DC0 (StK P) m g w→Goes P false (RW ty Wg C n 0 i) (DWs Wg O0 O0 C n k) (AtR0 P ty Wg C n 0 k v) m' g w→False:=by
  have fin:∀ (m':Nat) (g:Goroutine) (w:World),StK P g w→Goes P false (RW ty Wg C n 0 i) (DWs Wg O0 O0 C n k) (AtR0 P ty Wg C n 0 k v) m' g w→False:=by
    rintro m' g w ⟨_,g',h1⟩ h2
    have stp:AtR0 P ty Wg C n 0 k v g w→False:=fun ⟨_,_,g2,h3,_⟩=>by
      rw [h1] at h3
      simp [mk] at h3
    cases m' with
    | zero=>exact stp (h2 w (RW.refl w))
    | succ m' =>
      rcases h2 with h2 | ⟨_,h2⟩
      · exact stp (h2 w (RW.refl w))
      · have h3:=h2 w (RW.refl w)
        rw [h1] at h3
        exact ((h3.1.2 (mk .disable) (by simp)).2.1 rfl).elim
  intro m
  induction m with
  | zero=>exact fun m' g w h1 h2=>fin m' g w (h1 w (RW.refl w)) h2
  | succ m ih =>
    rintro m' g w (h1 | ⟨_,h1⟩) h2
    · exact fin m' g w (h1 w (RW.refl w)) h2
    · have h3:=h1 w (RW.refl w)
      cases hst:stepG P false g w with
      | go g' w' es =>
        rw [hst] at h3
        obtain ⟨⟨rfl,rfl⟩,h3⟩:=h3
        have stp:AtR0 P ty Wg C n 0 k v g w'→False:=fun ⟨_,_,g2,h4,_⟩=>by
          rw [hst] at h4
          simp at h4
        cases m' with
        | zero=>exact stp (h2 w' (RW.refl w'))
        | succ m' =>
          rcases h2 with h2 | ⟨_,h2⟩
          · exact stp (h2 w' (RW.refl w'))
          · have h4:=h2 w' (RW.refl w')
            rw [hst] at h4
            exact ih m' g' w' h3 h4.2
      | _=>rw [hst] at h3; exact h3.elim
theorem st_both {k:Nat}:∀ (m m':Nat) (g:Goroutine) (w:World),Goes P false (RW ty Wg C n 0 i) DC0 (StR P (RW ty Wg C n 0 i) Wg) m g w→Goes P false (RW ty Wg C n 0 i) (DWs Wg O0 O0 C n k) (AtR0 P ty Wg C n 0 k v) m' g w→Goes P false (RW ty Wg C n 0 i) DC0 (AtR0 P ty Wg C n 0 k v) m g w:=by
  have tr:∀ a b c,RW ty Wg C n 0 i a b→RW ty Wg C n 0 i b c→RW ty Wg C n 0 i a c:=fun _ _ _ h1 h2=>h1.trans h2
  have fin:∀ (m':Nat) (g:Goroutine) (w:World),(∀ w1,RW ty Wg C n 0 i w w1→StR P (RW ty Wg C n 0 i) Wg g w1)→Goes P false (RW ty Wg C n 0 i) (DWs Wg O0 O0 C n k) (AtR0 P ty Wg C n 0 k v) m' g w→∀ w1,RW ty Wg C n 0 i w w1→AtR0 P ty Wg C n 0 k v g w1:=by
    intro m' g w h1 h2
    cases m' with
    | zero=>exact h2
    | succ m' =>
      rcases h2 with h2 | ⟨_,h2⟩
      · exact h2
      · obtain ⟨_,g',h3,m2,h4⟩:=h1 w (RW.refl w)
        have h5:=h2 w (RW.refl w)
        rw [h3] at h5
        exact (st_clash _ _ _ _ h4 h5.2).elim
  intro m
  induction m with
  | zero=>exact fun m' g w h1 h2=>fin m' g w h1 h2
  | succ m ih =>
    rintro m' g w (h1 | ⟨hr,h1⟩) h2
    · exact .inl (fin m' g w h1 h2)
    · cases m' with
      | zero=>exact .inl h2
      | succ m' =>
        rcases h2 with h2 | ⟨_,h2⟩
        · exact .inl h2
        · refine .inr ⟨hr,fun w1 hw1=>?_⟩
          have h3:=h1 w1 hw1
          have h4:=h2 w1 hw1
          cases hst:stepG P false g w1 with
          | go g' w' es =>
            rw [hst] at h3 h4
            exact ⟨h3.1,ih m' g' w' h3.2 h4.2⟩
          | _=>rw [hst] at h3; exact h3.elim
theorem rwl {ty:TypeId} {i:Nat} {w w1:World} (h:WgLive ty Wg w) (r:RW ty Wg C n 0 i w w1):WgLive ty Wg w1:=r.live h
end
set_option maxRecDepth 100000 in
theorem doneX (H:WgLib P L) {i:Nat} {val:Value} {c:Frame} {qt:Nat} (hcm:c.mode = .returning) (hT:QuitsD P qt 0 (G c cs)) (w:World) (hl:WgLive L.tWg Wg w) (hh:Has C i val w) :
    Goes P false (RW L.tWg Wg C n 0 (i + 1 - 1)) DC0 (AtR0 P L.tWg Wg C n 0 (i + 1) val) 23 (G ((baseD L.done).at ⟨#[.pointer (some ⟨Wg,0,none⟩),undef,undef,undef],[]⟩ [.code (body_done L)]) (c :: cs)) w:=by
  refine st_both 23 23 _ w ?_ (doneN H hcm hT w ⟨hl,hh⟩)
  lib_facts
  have hF:=hl
  simp only [body_done,doneFn,Option.getD_some]
  u_reg rwl hF
  u_op rwl hF
  u_in rwl hF
  refine goes_call rfl rfl (by k_ne) rfl H.f_add (nm_add L) rfl ⟨by u_nil,?_⟩
  walk_nrmf addFn
  u_c stepG_seq rwl hF
  u_cond true rwl hF
  u_c stepG_seq rwl hF
  u_c stepG_seq rwl hF
  u_reg rwl hF
  u_op rwl hF
  u_op rwl hF
  u_c stepG_region_end rwl hF
  u_cond true rwl hF
  u_reg rwl hF
  u_op rwl hF
  u_conv H.underlying_tWgP H.room_tWg (WgLive.cell0 hF).choose_spec rwl hF
  refine Goes.stop (fun w₁ h₁=>?_)
  replace hF:=rwl hF h₁
  clear h₁
  refine ⟨rfl,_,stepG_markAt .releaseMerge (by simp) rfl rfl (by k_ne) rfl H.f_relMerge (x_relMerge_n L) (x_relMerge_b L) (x_relMerge_x L) (x_relMerge_f L) (by simp [Act.eval,stA]),10,?_⟩
  walk_nrm
  u_c stepG_region_end rwl hF
  u_c stepG_seq rwl hF
  u_reg rwl hF
  exact Goes.stop (fun w₂ h₂=>⟨rfl,_,stepG_mark0 .disable (by simp) rfl rfl (by k_ne) rfl H.f_disable (x_disable_n L) (x_disable_b L) (x_disable_x L) (x_disable_f L)⟩)
end
end Go.Gx
