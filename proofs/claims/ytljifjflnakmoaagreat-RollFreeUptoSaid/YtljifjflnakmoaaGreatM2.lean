/- Part. -/
import Derived.Conc.WgGenN3
import Derived.Test.YtljifjflnakmoaaGreatM1
import Derived.Great.BuildSlice
import Derived.Test.YtljifjflnakmoaaGreatHxB
import Derived.Test.YtljifjflnakmoaaGreatHxC
import Derived.Test.YtljifjflnakmoaaGreatHxZ
import Derived.Conc.LeavingOf
import Derived.Test.YtljifjflnakmoaaGreatHxA
import Derived.Test.YtljifjflnakmoaaGreatHxF
import Derived.WalkKit
import Derived.ProofKit
import Derived.OpenShut
import Derived.ShutString
import Derived.ChangeOld
import Derived.Below
import Derived.SizedLaws
import Derived.JoinedCond
import Derived.Test.YtljifjflnakmoaaGreatRows
import Derived.Test.YtljifjflnakmoaaGreatHxG
set_option linter.unusedVariables false
set_option linter.unusedSimpArgs false
set_option linter.unusedSectionVars false
set_option maxRecDepth 100000
set_option maxHeartbeats 2000000
namespace Go.Gx
open Go Go.Conc Go.ConcN Go.RowKit Go.Conc.Lib Go.ConcR.Gen Go.ConcN.Gen
open Go.ConcR (KK wgBlock WgAt stA smA rd wr mk Payload DC0)
section
variable [Payload] {L:WgLink} {P:Program} {Wg C n:Nat} {pm:Nat→Prop} {fr:Nat} {T:Goroutine→World→Prop} {B:World→Prop}
 {b₀:Frame} {a₀:Act} {ops₀:Array Oper} {i₀:Nat} {rest₀:List Nat} {k₀:List Item} {cs:List Frame}
theorem addX (H:WgLib P L) (hB:∀ v v1,B v→bo v v1→B v1) (hBs:∀ v l,B v→B (dw v Wg (gh l))) {r:Nat}
 (hT:TE P L.tWg Wg n pm fr T B [0,r,2] (G (b₀.at (a₀.put ((ops₀[i₀]?).bind (·.dst)) (.tuple #[])) (.inRegion ops₀ rest₀ :: k₀)) cs)) :
 TE P L.tWg Wg n pm fr T B [0,r,5] (G ((base L.add).at ⟨#[.pointer (some ⟨Wg,0,none⟩),.int .i64 1,undef,undef,undef,undef,undef,undef,undef,undef,undef,undef,undef,undef,undef,undef,undef,undef,undef,undef,undef,undef,undef,undef,undef,undef,undef,undef,undef,undef,undef,undef,undef,undef,undef,undef,undef,undef,undef,undef,undef,undef,undef,undef,undef,undef,undef,undef,undef,undef,undef,undef,undef,undef,undef,undef,undef,undef,undef,undef,undef,undef,undef,undef,undef,undef,undef,undef,undef,undef,undef,undef,undef,undef,undef,undef,undef,undef,undef,undef,undef,undef,undef,undef,undef,undef,undef,undef,undef,undef,undef,undef,undef,undef,undef,undef,undef,undef,undef,undef,undef,undef,undef,undef,undef,undef,undef,undef,undef,undef,undef,undef,undef,undef,undef,undef,undef],[]⟩ [.code (body_add L)]) (b₀.at a₀ (.inRegion ops₀ (i₀ :: rest₀) :: k₀) :: cs)):=by
 lib_facts
 simp only [body_add,addFn,Option.getD_some];refine TE.lib hB hBs 12 fun w hF=>?_
 u_c stepG_seq lv hF
 u_cond true lv hF
 u_c stepG_seq lv hF
 u_c stepG_seq lv hF
 u_reg lv hF
 u_op lv hF
 u_op lv hF
 u_c stepG_region_end lv hF
 u_cond false lv hF
 u_c stepG_skip lv hF
 u_c stepG_seq lv hF
 u_reg lv hF
 refine Goes.stop (fun w₁ h₁=>.inl ⟨rfl,fun _=>⟨[0,r,4],_,_,_,stepG_mark0 .disable (by simp) rfl rfl (by k_ne) rfl H.f_disable (x_disable_n L) (x_disable_b L) (x_disable_x L) (x_disable_f L),.dis,TE.lib hB hBs 40 fun w hF=>?_⟩⟩)
 walk_nrm
 u_c stepG_region_end lv hF
 u_reg lv hF
 u_defer lv hF
 u_c stepG_region_end lv hF
 u_c stepG_seq lv hF
 u_reg lv hF
 u_op lv hF
 u_c stepG_region_end lv hF
 u_c stepG_seq lv hF
 u_c stepG_seq lv hF
 u_reg lv hF
 u_bub lv hF
 u_c stepG_region_end lv hF
 u_cond false lv hF
 u_c stepG_skip lv hF
 u_c stepG_seq lv hF
 u_reg lv hF
 u_op lv hF
 u_op lv hF
 u_op lv hF
 u_op lv hF
 u_op lv hF
 u_op lv hF
 u_call H.f_uAdd (nm_uAdd L) uAddFn lv hF
 u_c stepG_seq lv hF
 u_reg lv hF
 u_op lv hF
 u_c stepG_region_end lv hF
 u_c stepG_seq lv hF
 u_reg lv hF
 u_op lv hF
 u_op lv hF
 u_op lv hF
 u_op lv hF
 refine Goes.stop (fun w₂ h₂=>.inl ⟨rfl,fun hf=>?_⟩);obtain ⟨v,hv,hw⟩:=hf.add r rfl;clear hf h₂ hF
 rcases Nat.eq_zero_or_pos v with rfl | hvp
 ·have hr:=Rel.add (n:=n) (r:=r) hw;replace hw:WgAt L.tWg Wg w₂ 0 0:=by simpa using hw
  have z:(((0:Nat):Int) + 1) * KK = KK:=by simp
  rw [z] at hr;have e0:IntKind.u64.wrap (0 + 4294967296) = KK:=by decide
  refine ⟨[0,r,3],_,_,_,(stepG_add_atomic rfl rfl (by k_ne) rfl H.f_addU64 (x_addU64_n L) (x_addU64_b L) (x_addU64_x L) .u64 (x_addU64_f L) rfl rfl hw.cellSt (hw.thaw 0)).trans (by rw [e0]; rfl),hr,TE.lib hB hBs 110 fun w hF=>?_⟩;clear hw hr;simp only [KK]
  walk_nrm
  u_op lv hF
  u_c stepG_region_end lv hF
  u_c stepG_ret' lv hF
  u_leave1 H.f_uAdd lv hF
  u_op lv hF
  u_c stepG_region_end lv hF
  u_c stepG_seq lv hF
  u_c stepG_seq lv hF
  u_reg lv hF
  u_op lv hF
  u_op lv hF
  u_op lv hF
  u_op lv hF
  u_skip lv hF
  u_skip lv hF
  u_op lv hF
  u_c stepG_region_end lv hF
  u_cond false lv hF
  u_c stepG_skip lv hF
  u_c stepG_seq lv hF
  u_reg lv hF
  u_op lv hF
  u_op lv hF
  u_op lv hF
  u_op lv hF
  u_c stepG_region_end lv hF
  u_c stepG_seq lv hF
  u_reg lv hF
  u_op lv hF
  u_op lv hF
  u_op lv hF
  u_op lv hF
  u_c stepG_region_end lv hF
  u_c stepG_seq lv hF
  u_c stepG_seq lv hF
  u_reg lv hF
  u_op lv hF
  u_op lv hF
  u_op lv hF
  u_op lv hF
  u_op lv hF
  u_op lv hF
  u_op lv hF
  u_op lv hF
  u_op lv hF
  u_op lv hF
  u_c stepG_region_end lv hF
  u_cond true lv hF
  u_reg lv hF
  u_op lv hF
  u_op lv hF
  u_op lv hF
  u_conv H.underlying_tPU32 H.room_tU32 (WgLive.cell1 hF).choose_spec lv hF
  refine Goes.stop (fun w₁ h₁=>.inl ⟨rfl,fun _=>⟨_,_,_,_,stepG_markAt .read (by simp) rfl rfl (by k_ne) rfl H.f_raceRead (x_raceRead_n L) (x_raceRead_b L) (x_raceRead_x L) (x_raceRead_f L) (ad:=⟨Wg,1,none⟩) (by simp [Act.eval]),.said (.inl rfl),TE.lib hB hBs 110 fun w hF=>?_⟩⟩)
  walk_nrm
  u_c stepG_region_end lv hF
  u_c stepG_seq lv hF
  u_c stepG_seq lv hF
  u_reg lv hF
  u_op lv hF
  u_op lv hF
  u_c stepG_region_end lv hF
  u_cond false lv hF
  u_c stepG_skip lv hF
  u_c stepG_seq lv hF
  u_c stepG_seq lv hF
  u_reg lv hF
  u_op lv hF
  u_op lv hF
  u_op lv hF
  u_skip lv hF
  u_skip lv hF
  u_op lv hF
  u_op lv hF
  u_skip lv hF
  u_skip lv hF
  u_skip lv hF
  u_skip lv hF
  u_op lv hF
  u_c stepG_region_end lv hF
  u_cond false lv hF
  u_c stepG_skip lv hF
  u_c stepG_seq lv hF
  u_c stepG_seq lv hF
  u_reg lv hF
  u_op lv hF
  u_op lv hF
  u_op lv hF
  u_skip lv hF
  u_skip lv hF
  u_op lv hF
  u_c stepG_region_end lv hF
  u_cond true lv hF
  u_c stepG_ret' lv hF
  refine Goes.stop (fun w₃ h₃=>.inl ⟨rfl,fun _=>⟨[0,r,2],_,_,_,stepG_unwind_entry (v:=.tuple #[]) (evs:=#[mk .enable]) rfl H.f_enable (x_enable_n L) (x_enable_b L) (x_enable_x L) (x_enable_f L) (by simp [Extern.Race.none_]) (by simp [mk]) (by simp [mk]),.en,TE.lib hB hBs 4 fun w hF=>?_⟩⟩)
  u_leave0 H.f_add lv hF
  exact Goes.stop (fun _ _=>.inr hT)
 ·obtain ⟨V,hV⟩:∃ V:Int,V = (v:Int) + 1:=⟨_,rfl⟩;obtain ⟨S,hS⟩:∃ S:Int,S = V * KK:=⟨_,rfl⟩;have hr:=Rel.add (n:=n) (r:=r) hw;have eS:IntKind.u64.wrap ((v:Int) * KK + 4294967296) = S:=by rw [IntKind.wrap_u64,hS,hV]; simp only [KK]; omega
  rw [← hV,← hS] at hr;have a1:S / 4294967296 = V:=by rw [hS]; simp only [KK]; omega
  have b1:bits .and .u64 S 2147483648 = 0:=by rw [hS,hV]; have:=st_flag (v + 1) 0 (by omega) (by omega); simpa [KK] using this
  have b2:bits .and .u64 S 2147483647 = 0:=by rw [hS,hV]; have:=st_waiters (v + 1) 0 (by omega) (by omega); simpa [KK] using this
  have c1:IntKind.i32.wrap V = V:=by rw [IntKind.wrap_i32]; omega
  have hV1:1 < V:=by omega
  have hV2:V < 2147483648:=by omega
  have q1:(V == 1) = false:=by simp; omega
  have q2:decide (V = 1) = false:=decide_eq_false (by omega);have q3:decide (V < 0) = false:=decide_eq_false (by omega);have q4:decide (0 < V) = true:=decide_eq_true (by omega);have q5:(V == 0) = false:=by simp; omega
  have q6:decide (V = 0) = false:=decide_eq_false (by omega);refine ⟨[0,r,3],_,_,_,(stepG_add_atomic rfl rfl (by k_ne) rfl H.f_addU64 (x_addU64_n L) (x_addU64_b L) (x_addU64_x L) .u64 (x_addU64_f L) rfl rfl hw.cellSt (hw.thaw 0)).trans (by rw [eS]; rfl),hr,TE.lib hB hBs 110 fun w hF=>?_⟩;clear hw hS hV eS hr
  walk_nrm
  u_op lv hF
  u_c stepG_region_end lv hF
  u_c stepG_ret' lv hF
  u_leave1 H.f_uAdd lv hF
  u_op lv hF
  u_c stepG_region_end lv hF
  u_c stepG_seq lv hF
  u_c stepG_seq lv hF
  u_reg lv hF
  u_op lv hF
  u_op lv hF
  u_op lv hF
  u_op lv hF
  u_skip lv hF
  u_skip lv hF
  u_op lv hF
  u_c stepG_region_end lv hF
  u_cnd false lv hF
  u_c stepG_skip lv hF
  u_c stepG_seq lv hF
  u_reg lv hF
  u_op lv hF
  u_op lv hF
  u_op lv hF
  u_op lv hF
  u_c stepG_region_end lv hF
  u_c stepG_seq lv hF
  u_reg lv hF
  u_op lv hF
  u_op lv hF
  u_op lv hF
  u_op lv hF
  u_c stepG_region_end lv hF
  u_c stepG_seq lv hF
  u_c stepG_seq lv hF
  u_reg lv hF
  u_op lv hF
  u_op lv hF
  u_op lv hF
  u_op lv hF
  u_op lv hF
  u_op lv hF
  u_op lv hF
  u_op lv hF
  u_op lv hF
  u_op lv hF
  u_c stepG_region_end lv hF
  u_cnd false lv hF
  u_c stepG_skip lv hF
  u_c stepG_seq lv hF
  u_c stepG_seq lv hF
  u_reg lv hF
  u_op lv hF
  u_op lv hF
  u_c stepG_region_end lv hF
  u_cnd false lv hF
  u_c stepG_skip lv hF
  u_c stepG_seq lv hF
  u_c stepG_seq lv hF
  u_reg lv hF
  u_op lv hF
  u_op lv hF
  u_op lv hF
  u_skip lv hF
  u_skip lv hF
  u_op lv hF
  u_op lv hF
  u_skip lv hF
  u_skip lv hF
  u_skip lv hF
  u_skip lv hF
  u_op lv hF
  u_c stepG_region_end lv hF
  u_cnd false lv hF
  u_c stepG_skip lv hF
  u_c stepG_seq lv hF
  u_c stepG_seq lv hF
  u_reg lv hF
  u_op lv hF
  u_op lv hF
  u_op lv hF
  u_skip lv hF
  u_skip lv hF
  u_op lv hF
  u_c stepG_region_end lv hF
  u_cnd true lv hF
  u_c stepG_ret' lv hF
  refine Goes.stop (fun w₃ h₃=>.inl ⟨rfl,fun _=>⟨[0,r,2],_,_,_,stepG_unwind_entry (v:=.tuple #[]) (evs:=#[mk .enable]) rfl H.f_enable (x_enable_n L) (x_enable_b L) (x_enable_x L) (x_enable_f L) (by simp [Extern.Race.none_]) (by simp [mk]) (by simp [mk]),.en,TE.lib hB hBs 4 fun w hF=>?_⟩⟩)
  u_leave0 H.f_add lv hF
  exact Goes.stop (fun _ _=>.inr hT)
end
end Go.Gx
namespace Go.Gx
open Go Go.Conc Go.ConcN Go.RowKit Go.Conc.Lib Go.ConcR.Gen Go.ConcN.Gen
open Go.ConcR (KK wgBlock WgAt stA smA rd wr mk Payload DC0)
section
variable [Payload] [Duo] {L:WgLink} {P:Program} {Wg C n:Nat} {pm:Nat→Prop} {fr:Nat} {T:Goroutine→World→Prop} {B:World→Prop}
 {b₀:Frame} {a₀:Act} {ops₀:Array Oper} {i₀:Nat} {rest₀:List Nat} {k₀:List Item} {cs:List Frame}
def FinX (P:Program) (pm:Nat→Prop) (fr:Nat) (T:Goroutine→World→Prop) (B B2:World→Prop) (g:Goroutine) (v:World):Prop:=B v ∧ ∀ v2,B2 v2→cQ X0 P true pm fr T g v2
theorem rt {w w1:World} (h:True) (r:RT w w1):True:=h
theorem waitRoundX (H:WgLib P L) (hB:∀ v v1,B v→bo v v1→B v1) (hBs:∀ v l,B v→B (dw v Wg (gh l))) {fv tv:Value} {pm2:Nat→Prop} {fr2:Nat} {T2:Goroutine→World→Prop} {B2:World→Prop} (hB2:∀ v v1,B2 v→bo v v1→B2 v1)
 (hT:∀ v,B2 v→cQ X0 P true pm2 fr2 T2 (G (b₀.at (a₀.put ((ops₀[i₀]?).bind (·.dst)) (.tuple #[])) (.inRegion ops₀ rest₀ :: k₀)) cs) v) :
 ∀ (b:Nat) (T:Array Value),T.size = 84→T[0]? = some (.pointer (some ⟨Wg,0,none⟩))→TE P L.tWg Wg n (pmM fr) fr (TM P L.tWg Wg C n fv tv (FinX P pm2 fr2 T2 B B2) 1 fr) B [2,b] (G ((base L.wait).at ⟨T,[]⟩ [.code (L7 L),.inLoop (L7 L),.inBlock 0]) (b₀.at a₀ (.inRegion ops₀ (i₀ :: rest₀) :: k₀) :: cs)):=by
 lib_facts
 intro b
 induction b using Nat.strongRecOn with
 | _ b ih =>
 intro T hT84 t0;obtain ⟨v0,v1,v2,v3,v4,v5,v6,v7,v8,v9,v10,v11,v12,v13,v14,v15,v16,v17,v18,v19,v20,v21,v22,v23,v24,v25,v26,v27,v28,v29,v30,v31,v32,v33,v34,v35,v36,v37,v38,v39,v40,v41,v42,v43,v44,v45,v46,v47,v48,v49,v50,v51,v52,v53,v54,v55,v56,v57,v58,v59,v60,v61,v62,v63,v64,v65,v66,v67,v68,v69,v70,v71,v72,v73,v74,v75,v76,v77,v78,v79,v80,v81,v82,v83,rfl⟩:=array84 T hT84;simp only [List.getElem?_toArray,List.getElem?_cons_zero,Option.some.injEq] at t0;subst t0;simp only [L7,body_wait,waitFn,Option.getD_some] at ih ⊢;refine TE.lib hB hBs 30 fun w hF=>?_
 u_c stepG_block lv hF
 u_c stepG_seq lv hF
 u_reg lv hF
 u_op lv hF
 u_op lv hF
 u_op lv hF
 u_call H.f_uLoad (nm_uLoad L) uLoadFn lv hF
 u_c stepG_seq lv hF
 u_reg lv hF
 u_op lv hF
 u_c stepG_region_end lv hF
 u_c stepG_seq lv hF
 u_reg lv hF
 u_op lv hF
 u_op lv hF
 u_op lv hF
 refine Goes.stop (fun w₁ h₁=>.inl ⟨rfl,fun hf=>?_⟩);obtain ⟨v,hvb,hv,hw⟩:=hf.anch b rfl;clear hf h₁ hF
 rcases Nat.eq_zero_or_pos v with rfl | hvp
 ·replace hw:WgAt L.tWg Wg w₁ 0 0:=by simpa using hw
  refine ⟨[6],_,_,_,stepG_load_atomic (v:=0) rfl rfl (by k_ne) rfl H.f_loadU64 (x_loadU64_n L) (x_loadU64_b L) (x_loadU64_x L) .u64 (x_loadU64_f L) rfl hw.cellSt,.ld0 hw,TE.lib hB hBs 50 fun w hF=>?_⟩;clear hw
  walk_nrm
  u_op lv hF
  u_c stepG_region_end lv hF
  u_c stepG_ret' lv hF
  u_leave1 H.f_uLoad lv hF
  u_op lv hF
  u_c stepG_region_end lv hF
  u_c stepG_seq lv hF
  u_reg lv hF
  u_op lv hF
  u_op lv hF
  u_op lv hF
  u_op lv hF
  u_c stepG_region_end lv hF
  u_c stepG_seq lv hF
  u_reg lv hF
  u_op lv hF
  u_op lv hF
  u_op lv hF
  u_op lv hF
  u_c stepG_region_end lv hF
  u_c stepG_seq lv hF
  u_c stepG_seq lv hF
  u_reg lv hF
  u_op lv hF
  u_op lv hF
  u_c stepG_region_end lv hF
  u_cond true lv hF
  u_c stepG_seq lv hF
  u_cond true lv hF
  u_c stepG_seq lv hF
  u_reg lv hF
  refine Goes.stop (fun w₅ h₅=>.inl ⟨rfl,fun _=>⟨[7],_,_,_,stepG_mark0 .enable (by simp) rfl rfl (by k_ne) rfl H.f_enable (x_enable_n L) (x_enable_b L) (x_enable_x L) (x_enable_f L),.enk,TE.lib hB hBs 12 fun w hF=>?_⟩⟩)
  walk_nrm
  u_c stepG_region_end lv hF
  u_reg lv hF
  u_op lv hF
  u_conv H.underlying_tWgP H.room_tWg (WgLive.cell0 hF).choose_spec lv hF
  refine Goes.stop (fun w₆ h₆=>.inr ⟨rfl,fun v hv hb=>.stop (.inl ⟨rfl,hv,_,rfl,fun w=>stepG_markAt .acquire (by simp) rfl rfl (by k_ne) rfl H.f_acquire (x_acquire_n L) (x_acquire_b L) (x_acquire_x L) (x_acquire_f L) (by simp [Act.eval,stA]),hb,fun v2 hb2=>?_⟩)⟩)
  walk_nrm
  refine lib0 hB2 60 _ _ hb2 fun w=>?_
  have hF:True:=trivial
  u_c stepG_region_end rt hF
  u_c stepG_seq rt hF
  u_c stepG_seq rt hF
  u_reg rt hF
  u_op rt hF
  u_op rt hF
  u_op rt hF
  u_op rt hF
  u_op rt hF
  u_op rt hF
  u_op rt hF
  u_op rt hF
  u_skip rt hF
  u_skip rt hF
  u_op rt hF
  u_c stepG_region_end rt hF
  u_cond false rt hF
  u_c stepG_skip rt hF
  u_c stepG_ret' rt hF
  u_leave0 H.f_wait rt hF
  exact Goes.stop (fun _ _=>⟨rfl,hT⟩)
 ·obtain ⟨S,hS⟩:∃ S:Int,(v:Int) * KK = S:=⟨_,rfl⟩;have a1:S / 4294967296 = (v:Int):=by rw [← hS]; simp only [KK]; omega
  have b1:bits .and .u64 S 2147483648 = 0:=by rw [← hS]; have:=st_flag v 0 (by omega) (by omega); simpa [KK] using this
  have b2:bits .and .u64 S 2147483647 = 0:=by rw [← hS]; have:=st_waiters v 0 (by omega) (by omega); simpa [KK] using this
  have c1:IntKind.i32.wrap (v:Int) = (v:Int):=by rw [IntKind.wrap_i32]; omega
  have w1:IntKind.u64.wrap (S + 1) = S + 1:=by rw [IntKind.wrap_u64,← hS]; simp only [KK]; omega
  have q3:decide ((v:Int) < 0) = false:=decide_eq_false (by omega);have q4:decide (0 < (v:Int)) = true:=decide_eq_true (by omega);have q5:((v:Int) == 0) = false:=by simp; omega
  have q6:decide ((v:Int) = 0) = false:=decide_eq_false (by omega);have hr:=Rel.ld (n:=n) hw (by omega) hvb;rw [hS] at hw;refine ⟨[3,v],_,_,_,stepG_load_atomic (v:=S) rfl rfl (by k_ne) rfl H.f_loadU64 (x_loadU64_n L) (x_loadU64_b L) (x_loadU64_x L) .u64 (x_loadU64_f L) rfl hw.cellSt,hr,TE.lib hB hBs 60 fun w hF=>?_⟩;clear hw hr
  walk_nrm
  u_op lv hF
  u_c stepG_region_end lv hF
  u_c stepG_ret' lv hF
  u_leave1 H.f_uLoad lv hF
  u_op lv hF
  u_c stepG_region_end lv hF
  u_c stepG_seq lv hF
  u_reg lv hF
  u_op lv hF
  u_op lv hF
  u_op lv hF
  u_op lv hF
  u_c stepG_region_end lv hF
  u_c stepG_seq lv hF
  u_reg lv hF
  u_op lv hF
  u_op lv hF
  u_op lv hF
  u_op lv hF
  u_c stepG_region_end lv hF
  u_c stepG_seq lv hF
  u_c stepG_seq lv hF
  u_reg lv hF
  u_op lv hF
  u_op lv hF
  u_c stepG_region_end lv hF
  u_cnd false lv hF
  u_c stepG_skip lv hF
  u_c stepG_seq lv hF
  u_reg lv hF
  u_op lv hF
  u_op lv hF
  u_op lv hF
  u_op lv hF
  u_op lv hF
  u_op lv hF
  u_call H.f_uCas (nm_uCas L) uCasFn lv hF
  u_c stepG_seq lv hF
  u_reg lv hF
  u_op lv hF
  u_c stepG_region_end lv hF
  u_c stepG_seq lv hF
  u_reg lv hF
  u_op lv hF
  u_op lv hF
  u_op lv hF
  u_op lv hF
  u_op lv hF
  refine Goes.stop (fun w₂ h₂=>.inl ⟨rfl,fun hf=>?_⟩);obtain ⟨v',hv'b,hv',hw⟩:=hf.seen v rfl;clear hf h₂ hF
  by_cases e:v' = v
  ·subst e;have hr:=Rel.hit (n:=n) hw;rw [hS] at hw hr;refine ⟨[4],_,_,_,(stepG_cas_hit (v:=S) (n:=S + 1) rfl rfl (by k_ne) rfl H.f_casU64 (x_casU64_n L) (x_casU64_b L) (x_casU64_x L) .u64 (x_casU64_f L) rfl rfl rfl hw.cellSt (hw.thaw 0)).trans (by rfl),hr,TE.lib hB hBs 70 fun w hF=>?_⟩;clear hw hr
   walk_nrm
   u_op lv hF
   u_c stepG_region_end lv hF
   u_c stepG_ret' lv hF
   u_leave1 H.f_uCas lv hF
   u_c stepG_region_end lv hF
   u_cond true lv hF
   u_c stepG_seq lv hF
   u_c stepG_seq lv hF
   u_reg lv hF
   u_op lv hF
   u_op lv hF
   u_op lv hF
   u_op lv hF
   u_c stepG_region_end lv hF
   u_cond true lv hF
   u_reg lv hF
   u_op lv hF
   u_op lv hF
   u_op lv hF
   u_conv H.underlying_tPU32 H.room_tU32 (WgLive.cell1 hF).choose_spec lv hF
   refine Goes.stop (fun w₁ h₁=>.inl ⟨rfl,fun _=>⟨_,_,_,_,stepG_markAt .write (by simp) rfl rfl (by k_ne) rfl H.f_raceWrite (x_raceWrite_n L) (x_raceWrite_b L) (x_raceWrite_x L) (x_raceWrite_f L) (ad:=⟨_,1,none⟩) (by simp [Act.eval] <;> rfl),.said (.inr rfl),TE.lib hB hBs 60 fun w hF=>?_⟩⟩)
   walk_nrm
   u_c stepG_region_end lv hF
   u_c stepG_seq lv hF
   u_reg lv hF
   u_op lv hF
   u_c stepG_region_end lv hF
   u_c stepG_seq lv hF
   u_c stepG_seq lv hF
   u_reg lv hF
   u_op lv hF
   u_op lv hF
   u_op lv hF
   u_op lv hF
   u_skip lv hF
   u_op lv hF
   u_c stepG_region_end lv hF
   u_cond false lv hF
   u_c stepG_skip lv hF
   u_c stepG_seq lv hF
   u_reg lv hF
   u_op lv hF
   u_op lv hF
   u_op lv hF
   u_op lv hF
   refine Goes.stop (fun w₃ h₃=>.inr ⟨rfl,fun v hv hb=>.stop (.inr ⟨hv,⟨rfl,rfl,fun w ⟨st,hw⟩=>stepG_semacquire_wait rfl rfl rfl H.f_semacquire (x_semacquire_n L) (x_semacquire_b L) (x_semacquire_x L) (x_semacquire_f L) (by simp [Act.eval,smA]) hw.cellSm⟩,_,rfl,fun w hf=>(stepG_semacquire (n:=1) rfl rfl (by k_ne) rfl H.f_semacquire (x_semacquire_n L) (x_semacquire_b L) (x_semacquire_x L) (x_semacquire_f L) (by simp [Act.eval,smA]) hf.cellSm (by k_ne) (hf.thaw 1)).trans (by rfl),fun u hu hnu=>?_⟩)⟩);refine libX hB hBs 30 _ _ (cR (Nat.lt_of_lt_of_le (aw hv) hu.size)) (hBs _ _ (hB _ _ hb hu)) fun w hF=>?_
   clear hv hb hu hnu
   walk_nrm
   u_c stepG_region_end lv hF
   u_c stepG_seq lv hF
   u_reg lv hF
   u_op lv hF
   u_op lv hF
   u_op lv hF
   u_call H.f_uLoad (nm_uLoad L) uLoadFn lv hF
   u_c stepG_seq lv hF
   u_reg lv hF
   u_op lv hF
   u_c stepG_region_end lv hF
   u_c stepG_seq lv hF
   u_reg lv hF
   u_op lv hF
   u_op lv hF
   u_op lv hF
   refine Goes.stop (fun w₄ h₄=>.inl ⟨rfl,fun hf=>?_⟩);have hw:=hf.woke rfl;clear hf h₄ hF;refine ⟨[6],_,_,_,stepG_load_atomic (v:=0) rfl rfl (by k_ne) rfl H.f_loadU64 (x_loadU64_n L) (x_loadU64_b L) (x_loadU64_x L) .u64 (x_loadU64_f L) rfl hw.cellSt,.ld4,TE.lib hB hBs 30 fun w hF=>?_⟩;clear hw
   walk_nrm
   u_op lv hF
   u_c stepG_region_end lv hF
   u_c stepG_ret' lv hF
   u_leave1 H.f_uLoad lv hF
   u_op lv hF
   u_op lv hF
   u_c stepG_region_end lv hF
   u_c stepG_seq lv hF
   u_cond true lv hF
   u_c stepG_seq lv hF
   u_reg lv hF
   refine Goes.stop (fun w₅ h₅=>.inl ⟨rfl,fun _=>⟨[7],_,_,_,stepG_mark0 .enable (by simp) rfl rfl (by k_ne) rfl H.f_enable (x_enable_n L) (x_enable_b L) (x_enable_x L) (x_enable_f L),.enk,TE.lib hB hBs 12 fun w hF=>?_⟩⟩)
   walk_nrm
   u_c stepG_region_end lv hF
   u_reg lv hF
   u_op lv hF
   u_conv H.underlying_tWgP H.room_tWg (WgLive.cell0 hF).choose_spec lv hF
   refine Goes.stop (fun w₆ h₆=>.inr ⟨rfl,fun v hv hb=>.stop (⟨rfl,hv,_,rfl,fun w=>stepG_markAt .acquire (by simp) rfl rfl (by k_ne) rfl H.f_acquire (x_acquire_n L) (x_acquire_b L) (x_acquire_x L) (x_acquire_f L) (by simp [Act.eval,stA]),hb,fun v2 hb2=>?_⟩)⟩)
   walk_nrm
   refine lib0 hB2 60 _ _ hb2 fun w=>?_
   have hF:True:=trivial
   u_c stepG_region_end rt hF
   u_c stepG_seq rt hF
   u_c stepG_seq rt hF
   u_reg rt hF
   u_op rt hF
   u_c stepG_region_end rt hF
   u_cond false rt hF
   u_c stepG_skip rt hF
   u_c stepG_ret' rt hF
   u_leave0 H.f_wait rt hF
   exact Goes.stop (fun _ _=>⟨rfl,hT⟩)
  ·refine ⟨[2,v - 1],_,_,_,stepG_cas_miss (v:=(v':Int) * KK) (old:=S) (n:=S + 1) rfl rfl (by k_ne) rfl H.f_casU64 (x_casU64_n L) (x_casU64_b L) (x_casU64_x L) .u64 (x_casU64_f L) rfl rfl rfl hw.cellSt (hw.thaw 0) (by rw [← hS]; simp only [KK]; omega),.miss hw (by omega),TE.lib hB hBs 20 fun w hF=>?_⟩;clear hw
   walk_nrm
   u_op lv hF
   u_c stepG_region_end lv hF
   u_c stepG_ret' lv hF
   u_leave1 H.f_uCas lv hF
   u_c stepG_region_end lv hF
   u_cond false lv hF
   u_c stepG_skip lv hF
   u_c stepG_inBlock lv hF
   u_c stepG_inLoop lv hF
   exact Goes.stop (fun w₃ h₃=>.inr (ih (v - 1) (by omega) _ (by simp) (by simp)))
theorem waitX (H:WgLib P L) (hB:∀ v v1,B v→bo v v1→B v1) (hBs:∀ v l,B v→B (dw v Wg (gh l))) {fv tv:Value} {pm2:Nat→Prop} {fr2:Nat} {T2:Goroutine→World→Prop} {B2:World→Prop} (hB2:∀ v v1,B2 v→bo v v1→B2 v1)
 (hT:∀ v,B2 v→cQ X0 P true pm2 fr2 T2 (G (b₀.at (a₀.put ((ops₀[i₀]?).bind (·.dst)) (.tuple #[])) (.inRegion ops₀ rest₀ :: k₀)) cs) v) :
 TE P L.tWg Wg n (pmM fr) fr (TM P L.tWg Wg C n fv tv (FinX P pm2 fr2 T2 B B2) 1 fr) B [1] (G ((base L.wait).at ⟨#[.pointer (some ⟨Wg,0,none⟩),undef,undef,undef,undef,undef,undef,undef,undef,undef,undef,undef,undef,undef,undef,undef,undef,undef,undef,undef,undef,undef,undef,undef,undef,undef,undef,undef,undef,undef,undef,undef,undef,undef,undef,undef,undef,undef,undef,undef,undef,undef,undef,undef,undef,undef,undef,undef,undef,undef,undef,undef,undef,undef,undef,undef,undef,undef,undef,undef,undef,undef,undef,undef,undef,undef,undef,undef,undef,undef,undef,undef,undef,undef,undef,undef,undef,undef,undef,undef,undef,undef,undef,undef],[]⟩ [.code (body_wait L)]) (b₀.at a₀ (.inRegion ops₀ (i₀ :: rest₀) :: k₀) :: cs)):=by
 lib_facts
 have hR:=waitRoundX (fv:=fv) (tv:=tv) (C:=C) (n:=n) (fr:=fr) H hB hBs hB2 hT n;simp only [L7,body_wait,waitFn,Option.getD_some] at hR ⊢;refine TE.lib hB hBs 3 fun w hF=>?_
 u_c stepG_seq lv hF
 u_cond true lv hF
 u_reg lv hF
 refine Goes.stop (fun w₁ h₁=>.inl ⟨rfl,fun _=>⟨[2,n],_,_,_,stepG_mark0 .disable (by simp) rfl rfl (by k_ne) rfl H.f_disable (x_disable_n L) (x_disable_b L) (x_disable_x L) (x_disable_f L),.wdis,TE.lib hB hBs 3 fun w hF=>?_⟩⟩)
 walk_nrm
 u_c stepG_region_end lv hF
 u_c stepG_block lv hF
 u_c stepG_loop lv hF
 exact Goes.stop (fun w₂ h₂=>.inr (hR _ (by simp) (by simp)))
end
end Go.Gx
namespace Go.Proofs.YtljifjflnakmoaaGreat
open Go Go.Gx Go.Conc Go.ConcN Go.RowKit Go.Conc.Lib Go.ConcR.Gen Go.ConcN.Gen
open Go.ConcR (KK wgBlock WgAt stA smA rd wr mk Payload DC0 Bk g_of_ofEvents)
theorem enterWait (Wg:Nat):Frame.enter Tryz.prog 30 #[ptr Wg] .normal = (base wgL.wait).at ⟨#[ptr Wg,undef,undef,undef,undef,undef,undef,undef,undef,undef,undef,undef,undef,undef,undef,undef,undef,undef,undef,undef,undef,undef,undef,undef,undef,undef,undef,undef,undef,undef,undef,undef,undef,undef,undef,undef,undef,undef,undef,undef,undef,undef,undef,undef,undef,undef,undef,undef,undef,undef,undef,undef,undef,undef,undef,undef,undef,undef,undef,undef,undef,undef,undef,undef,undef,undef,undef,undef,undef,undef,undef,undef,undef,undef,undef,undef,undef,undef,undef,undef,undef,undef,undef,undef],[]⟩ [.code (body_wait wgL)]:=(enter_at (fn:=waitFn wgL) (c:=body_wait wgL) _ wgH.f_wait rfl).trans (by walk_nrmf waitFn)
theorem enterAdd (Wg:Nat):Frame.enter Tryz.prog 27 #[ptr Wg,.int .i64 1] .normal = (base wgL.add).at ⟨#[ptr Wg,.int .i64 1,undef,undef,undef,undef,undef,undef,undef,undef,undef,undef,undef,undef,undef,undef,undef,undef,undef,undef,undef,undef,undef,undef,undef,undef,undef,undef,undef,undef,undef,undef,undef,undef,undef,undef,undef,undef,undef,undef,undef,undef,undef,undef,undef,undef,undef,undef,undef,undef,undef,undef,undef,undef,undef,undef,undef,undef,undef,undef,undef,undef,undef,undef,undef,undef,undef,undef,undef,undef,undef,undef,undef,undef,undef,undef,undef,undef,undef,undef,undef,undef,undef,undef,undef,undef,undef,undef,undef,undef,undef,undef,undef,undef,undef,undef,undef,undef,undef,undef,undef,undef,undef,undef,undef,undef,undef,undef,undef,undef,undef,undef,undef,undef,undef,undef,undef],[]⟩ [.code (body_add wgL)]:=(enter_at (fn:=addFn wgL) (c:=body_add wgL) _ wgH.f_add rfl).trans (by walk_nrmf addFn)
theorem entersWait:cv Tryz.prog 30:=cv.mk' (by kernel_rfl)
theorem entersAdd:cv Tryz.prog 27:=cv.mk' (by kernel_rfl)
theorem enters20:cv Tryz.prog 26:=cv.mk' (by kernel_rfl)
theorem rZ {P:Program} {pm:Nat→Prop} {fr:Nat} {op:BinOp} {t:TypeId} {x y:Operand} {k k':IntKind} {m n:Int}:Tm P pm fr ((do eqGuard op t x y (.int k m) (.int k' n); binOp op t (.int k m) (.int k' n):Sem Value) >>= fun r=>pure (Next.value r)):=.bind (.bind df fun _=>eW) fun _=>.pure _
theorem pA {P:Program} {op:BinOp} {t:TypeId} {x y:Operand} {k:IntKind} {m n:Int} {r:Value} (h:∀ w,(binOp op t (.int k m) (.int k n)).run P w = .ok r w) (w:World):((do eqGuard op t x y (.int k m) (.int k n); binOp op t (.int k m) (.int k n):Sem Value) >>= fun r=>pure (Next.value r)).run P w = .ok (.value r) w:=by
 simp [Sem.run_bind,ef,h]
theorem kg {M:Nat→Prop} {a b c:World} (h:aJ M a b) (g:bo b c):aJ M a c:=h.trans' (.ed g) fun _ _ h=>h.elim
variable [Duo]
abbrev Mx (C:Nat):Nat→Prop:=fun b=>Row C b ∨ b = Duo.R
structure uL (u0:World) (C gb n cp:Nat) (cap:Nat→Array Value):Prop where
 pos:0 < n
 few:n ≤ 16
 cell:∀ i,i < n→u0.cell? ⟨gb,i,none⟩ = some (.func (.func 21) #[] (cap i))
 ne:¬ Mx C gb
 here:u0.heap[C]? = some (.cells (Array.replicate n (.bool false)) 4)
 here2:u0.heap[Duo.C2]? = some (.cells (Array.replicate n Duo.fv2) Duo.ty2 (0,0))
 hereR:∃ σ0:Nat,u0.heap[Duo.R]? = some (.cells (Duo.c0 ++ [Value.int .u64 (σ0:Nat)]).toArray Duo.tyR (0,0)) ∧ Duo.J σ0 (fun _=>Duo.ini)
 apR:¬ Row C Duo.R
 ap2:C ≠ Duo.C2
 wr:∀ v s,bo u0 v→a9 v→u0.heap.size ≤ s→s ≤ v.heap.size→eo X0 s Tryz.prog 26 #[.slice (some ⟨gb,0,none⟩) n cp] v (bG v (.int .i64 0))
 gate:∀ i,i < n→∀ v s,a9 v→s ≤ v.heap.size→u0.heap.size ≤ s→v.heap[C]? = some (slot i (.bool false))→v.heap[Duo.C2]? = some (slot i Duo.fv2)→GhR v Duo.ini→aJ (Mx C) u0 v →
  eo (XW Tryz.prog i) s Tryz.prog 21 (#[.nilIface] ++ cap i) v ⟨Mx C,fun e v'=>e = .returned (.tuple #[]) ∧ v'.heap[C]? = some (slot i (.bool true)) ∧ Duo.mF i v'⟩
section
variable {u0:World} {C gb n cp:Nat} {cap:Nat→Array Value}
theorem uL.lt (H:uL u0 C gb n cp cap):∀ b,Mx C b→b < u0.heap.size:=fun b hb=>by
 rcases hb with (rfl | rfl) | rfl
 ·exact aw H.here
 ·exact aw H.here2
 ·obtain ⟨_,h,_⟩:=H.hereR; exact aw h
theorem uL.apart (H:uL u0 C gb n cp cap) {Wg:Nat} (hW:u0.heap.size ≤ Wg):Apart Wg C:=⟨fun e=>by have:=H.lt _ (.inl e); omega,H.apR,fun e=>by have:=H.lt _ (.inr rfl); omega⟩
end
def B0 (u0:World) (C:Nat) (v:World):Prop:=aJ (Mx C) u0 v
def B2 (u0:World) (C n:Nat) (Fx:World→Prop) (v:World):Prop:=aJ (Mx C) u0 v ∧ v.heap[C]? = some (.cells (Array.replicate n (.bool true)) 4) ∧ Fx v
def EndT (kind:CallKind) (cs:List Frame) (u0:World) (C n:Nat) (Fx:World→Prop) (g:Goroutine) (v:World):Prop :=
 B2 u0 C n Fx v ∧ ∃ T td,T[2]? = some (.int .i64 0) ∧ g = G { (g7 9 kind).atR ⟨T,[]⟩ td with mode:=.returning } cs
abbrev FinF (kind:CallKind) (cs:List Frame) (u0:World) (C n:Nat) (Fx:World→Prop):Goroutine→World→Prop:=FinX Tryz.prog (fun b=>u0.heap.size ≤ b) u0.heap.size (EndT kind cs u0 C n Fx) (B0 u0 C) (B2 u0 C n Fx)
def Kg (Fx:World→Prop):Prop:=∀ v v1,Fx v→bo v v1→Fx v1
def AllocT (kind:CallKind) (cs:List Frame) (u0:World) (C n:Nat) (Fx:World→Prop) (g:Goroutine) (v:World):Prop :=
 g.status = .running ∧ aJ dI u0 v ∧ ∀ v1,bo v v1→a9 v1→∃ g',g'.status = .running ∧ (∀ w:World,w.heap.size = v1.heap.size→stepG Tryz.prog true g w = .go g' { w with heap:=w.heap.push (wgBlock 102 0 0) } #[]) ∧
  cQ (XB Tryz.prog 102 v1.heap.size n) Tryz.prog true (pmM (v1.heap.size + 1)) (v1.heap.size + 1) (TM Tryz.prog 102 v1.heap.size C n (.bool false) (.bool true) (FinF kind cs u0 C n Fx) (n - 1 + 2) (v1.heap.size + 1)) g'
   (jC { v1 with heap:=v1.heap.push (wgBlock 102 0 0) } v1.heap.size C [0,n - 1,5])
theorem uY {kind:CallKind} {cs:List Frame} {u0:World} {C n:Nat} {Fx:World→Prop}:Closed (AllocT kind cs u0 C n Fx):=fun g v v1 h hg=>⟨h.1,h.2.1.trans (.ed hg),fun v2 h2=>h.2.2 v2 (hg.trans h2)⟩
structure Ph (u0:World) (C Wg fr:Nat) (l:List Nat) (v:World):Prop where
 b:B0 u0 C v
 g:v.heap[Wg]? = some (gh l)
 f:fr ≤ v.heap.size
theorem pg {u0:World} {C Wg fr:Nat} {l:List Nat} {v v1:World} (h:Ph u0 C Wg fr l v) (g:bo v v1):Ph u0 C Wg fr l v1:=⟨kg h.1 g,by rw [g.old _ (aw h.2)]; exact h.2,Nat.le_trans h.3 g.size⟩
theorem xG {u0:World} {C Wg:Nat} {v:World} {o:Obj} (h:B0 u0 C v) (hW:u0.heap.size ≤ Wg):B0 u0 C (dw v Wg o) :=
 h.trans' (fD (M:=(· = Wg)) rfl) fun i hi e=>by omega
theorem xF {u0:World} {C n:Nat} {Fx:World→Prop} (hFx:Kg Fx) {v v1:World} (h:B2 u0 C n Fx v) (g:bo v v1):B2 u0 C n Fx v1:=⟨kg h.1 g,by rw [g.old _ (aw h.2.1)]; exact h.2.1,hFx _ _ h.2.2 g⟩
theorem endT_closed {kind:CallKind} {cs:List Frame} {u0:World} {C n:Nat} {Fx:World→Prop} (hFx:Kg Fx):Closed (EndT kind cs u0 C n Fx):=fun g v v1 h hg=>⟨xF hFx h.1 hg,h.2⟩
theorem finF_closed {kind:CallKind} {cs:List Frame} {u0:World} {C n:Nat} {Fx:World→Prop}:Closed (FinF kind cs u0 C n Fx):=fun g v v1 h hg=>⟨kg h.1 hg,h.2⟩
theorem ph_start {u0:World} {C Wg:Nat} {l:List Nat} {v:World} {o:Obj} (h:aJ dI u0 v) (hW:v.heap.size = Wg) (hl:∀ b,Mx C b→b < u0.heap.size) (A:Apart Wg C):Ph u0 C Wg (Wg + 1) l (jC { v with heap:=v.heap.push o } Wg C l):=by
 have hs:=h.size;have e:Wg < ({ v with heap:=v.heap.push o }:World).heap.size:=by simp [hW]
 refine ⟨?_,(qH e (fun b hb=>by have:=hl b hb; omega) A Wg).2.1 rfl,by rw [tP]; simp [hW]⟩;have h1:aJ dI u0 (dw { v with heap:=v.heap.push o } Wg (gh l)):=(h.trans (.alloc _ v o)).trans' (fD (M:=(· = Wg)) rfl) fun i hi e=>by omega
 exact (((h1.mono fun _ h=>h.elim).trans (fD (.inl (.inl rfl)))).trans (fD (.inl (.inr rfl)))).trans (fD (.inr rfl))
theorem run_lenG {P:Program} {t e:TypeId} (h:P.underlying t = some (.slice e)) {ty:TypeId} {b:Option Addr} {n c:Nat} (w:World):(Builtin.len_ #[t] ty #[.slice b n c] >>= fun r=>pure (Next.value r)).run P w = .ok (.value (.int .i64 n)) w:=by
 have hu:(underlying t).run P w = .ok (.slice e) w:=by simp [underlying,h]
 simp [Builtin.len_,hu,goInt]
theorem tm_lenG {P:Program} {pm:Nat→Prop} {fr:Nat} {t e:TypeId} (h:P.underlying t = some (.slice e)) {ty:TypeId} {b:Option Addr} {n c:Nat}:Tm P pm fr (Builtin.len_ #[t] ty #[.slice b n c] >>= fun r=>pure (Next.value r)):=.bind (.under h (.pure _)) fun _=>.pure _
theorem exec_len {ρ:Operand→Value} {t ty:TypeId} {x:Operand} {dst:Option Tmp} {pos:String} {af:Array Edge} {gd:Option (Nat × Bool)}:execOp ρ ⟨dst,.call { callee:=.builtin .len,args:=#[x],argTypes:=#[t] },ty,pos,af,gd⟩ = (Builtin.len_ #[t] ty #[ρ x] >>= fun r=>pure (Next.value r)):=by
 simp [execOp,resolve,invoke,builtin]
theorem alloc_step {b:Frame} {a:Act} {k:List Item} {cs:List Frame} {ops:Array Oper} {i:Nat} {rest:List Nat} {o:Oper} (hk:b.kind ≠ .early) (ho:ops[i]? = some o) (hg:o.guard = none) (hop:o.op = .alloc 102) (w:World) :
 stepG Tryz.prog true (G (b.atR a (.inRegion ops (i :: rest) :: k)) cs) w = .go (G (b.atR (a.put o.dst (ptr w.heap.size)) (.inRegion ops rest :: k)) cs) { w with heap:=w.heap.push (wgBlock 102 0 0) } #[]:=by
 have hk':((b.atR a (.inRegion ops (i :: rest) :: k)).kind == CallKind.early) = false:=by simpa [Frame.atR] using hk
 have hfin:∀ x,(b.atR a (.inRegion ops (i :: rest) :: k)).finish x = b.atR (a.put o.dst x) (.inRegion ops rest :: k):=fun x=>by rw [Frame.finish_atR,ho]; rfl
 have hw:Region.wanted o (yielded ops a.tmps) = true:=by simp [Region.wanted,hg]
 have h1:(execOp a.eval o).runT Tryz.prog w #[] = (.ok (.value (ptr w.heap.size)) { w with heap:=w.heap.push (wgBlock 102 0 0) },#[]):=by
  have z:=wgH.zeroValue_tWg;unfold execOp;rw [hop];simp [Instr.alloc,go_sem,ptr,wgBlock]
 rw [iI w ho hw (.inl (by rw [hop]; rfl))];unfold stepG.apply;simp only [if_true,h1,hk',Bool.false_eq_true,if_false];rw [← hfin];simp [GStep.after,G,Frame.atR,seen]
theorem lss_t {i n:Int} (h:i < n):Op.intCmp .lss i n = pure (.bool true):=by simp [Op.intCmp,h]
theorem lss_f {i n:Int} (h:¬ i < n):Op.intCmp .lss i n = pure (.bool false):=by simp [Op.intCmp,h]
section
variable {X:Ext} {P:Program} {main:Bool} {pm:Nat→Prop} {fr:Nat} {T:Goroutine→World→Prop} {b:Frame} {a:Act} {k:List Item} {cs:List Frame} {v:World} {ops:Array Oper} {i:Nat} {rest:List Nat} {o:Oper}
theorem rPush {ob:World→Obj} (hk:b.kind ≠ .early) (ho:ops[i]? = some o) (hg:o.guard = none) (hd:eK o.op = false) (ht:Tm P pm fr (execOp a.eval o)) (hr:∀ v1,bo v v1→(execOp a.eval o).run P v1 = .ok (.value (ptr v1.heap.size)) { v1 with heap:=v1.heap.push (ob v1) })
 (h:∀ v1,bo v v1→a9 v1→cQ X P main pm fr T (G (b.atR (a.put o.dst (ptr v1.heap.size)) (.inRegion ops rest :: k)) cs) { v1 with heap:=v1.heap.push (ob v1) }):cQ X P main pm fr T (G (b.atR a (.inRegion ops (i :: rest) :: k)) cs) v :=
 rOp hk ho hg hd fun v1 h1 hn=>aU (by rintro nx v2 ⟨rfl,rfl⟩; exact .inl ⟨_,rfl,h _ h1 hn⟩) _ _ (ht v1 hn _ _ (hr v1 h1))
theorem rPut {f:World→World} (hk:b.kind ≠ .early) (ho:ops[i]? = some o) (hg:o.guard = none) (hd:eK o.op = false) (ht:Tm P pm fr (execOp a.eval o)) (hr:∀ v1,bo v v1→(execOp a.eval o).run P v1 = .ok .skip (f v1))
 (h:∀ v1,bo v v1→a9 v1→cQ X P main pm fr T (G (b.atR (a.put o.dst undef) (.inRegion ops rest :: k)) cs) (f v1)):cQ X P main pm fr T (G (b.atR a (.inRegion ops (i :: rest) :: k)) cs) v :=
 rOp hk ho hg hd fun v1 h1 hn=>aU (by rintro nx v2 ⟨rfl,rfl⟩; exact .inr ⟨rfl,h _ h1 hn⟩) _ _ (ht v1 hn _ _ (hr v1 h1))
theorem spawn_step {d:Deferred} {f:Fn} {c:Array Value} (hk:b.kind ≠ .early) (ho:ops[i]? = some o) (hg:o.guard = none) (hd:eK o.op = false) {w:World} (hr:(execOp a.eval o).runT P w #[] = (.ok (.spawn d) w,#[])) (ht:d.target = .fn f c) :
 stepG P main (G (b.atR a (.inRegion ops (i :: rest) :: k)) cs) w = .spawn (G (b.atR (a.put o.dst undef) (.inRegion ops rest :: k)) cs) (born P d) w #[]:=by
 have hk':((b.atR a (.inRegion ops (i :: rest) :: k)).kind == CallKind.early) = false:=by simpa [Frame.atR] using hk
 have hfin:∀ x,(b.atR a (.inRegion ops (i :: rest) :: k)).finish x = b.atR (a.put o.dst x) (.inRegion ops rest :: k):=fun x=>by rw [Frame.finish_atR,ho]; rfl
 have hw:Region.wanted o (yielded ops a.tmps) = true:=by simp [Region.wanted,hg]
 rw [iI w ho hw (.inl hd)];unfold stepG.apply;simp only [if_true,hr,hk',Bool.false_eq_true,if_false];rw [← hfin];simp [GStep.after,G,born,ht,seen]
end
structure Bx (u0:World) (C fr box:Nat) (cap:Array Value) (v:World):Prop where
 b:B0 u0 C v
 f:fr ≤ v.heap.size
 c:v.cell? ⟨box,0,none⟩ = some (.func (.func 21) #[] cap)
theorem sx {u0:World} {C fr box:Nat} {cap:Array Value} (v v1:World) (h:Bx u0 C fr box cap v) (g:bo v v1):Bx u0 C fr box cap v1:=⟨kg h.1 g,Nat.le_trans h.2 g.size,by rw [← h.3]; simp only [World.cell?]; rw [g.old _ (mf h.3)]⟩
theorem bx_setG {u0:World} {C fr box Wg:Nat} {cap:Array Value} (hW:u0.heap.size ≤ Wg) (hb:Wg ≠ box) (v:World) (l:List Nat) (h:Bx u0 C fr box cap v):Bx u0 C fr box cap (dw v Wg (gh l)):=⟨xG h.1 hW,by rw [di]; exact h.2,by rw [← h.3]; simp only [World.cell?]; rw [dJ hb]⟩
theorem freeX {kind:CallKind} (hk:kind ≠ .early) {cs:List Frame} {u0:World} {C gb n cp:Nat} {cap:Nat→Array Value} {Fx:World→Prop} (hFx:Kg Fx) (H:uL u0 C gb n cp cap) :
 cQ X0 Tryz.prog true (pmM u0.heap.size) u0.heap.size (AllocT kind cs u0 C n Fx) (G (Frame.enter Tryz.prog 9 #[.slice (some ⟨gb,0,none⟩) n cp] kind) cs) u0:=by
 have hb8:(g7 9 kind).kind ≠ .early:=hk;have hT:=uY (kind:=kind) (cs:=cs) (u0:=u0) (C:=C) (n:=n) (Fx:=Fx);have hG:bo u0 u0:=.refl _;have e:Frame.enter Tryz.prog 9 #[.slice (some ⟨gb,0,none⟩) n cp] kind = (g7 9 kind).atR ⟨#[.slice (some ⟨gb,0,none⟩) n cp,undef,undef,undef,undef,undef,undef,undef,undef,undef,undef,undef,undef,undef,undef,undef,undef,undef,undef,undef,undef,undef],[]⟩ [.code (Tryz.f9.body.getD .skip)]:=by
  simp [Frame.enter,Frame.atR,Tryz.func9,Tryz.f9,g7]
  rfl
 rw [e];simp only [Tryz.f9,Option.getD_some]
 repeat (refine .ctl hT rfl (fun w=>gQ w) ?_)
 refine .ctl hT rfl (fun w=>dC w) ?_;simp only [List.size_toArray,List.length_cons,List.length_nil,Nat.reduceAdd,Nat.zero_add,List.range,List.range.loop];refine m7 (x:=(.int .i64 0)) hb8 rfl rfl rfl (.pure _) (fun v1 _=>by simp [execOp,Act.eval,Instr.makeFunc]) fun v1 h1 n1=>?_
 replace hG:=bo.trans hG h1;clear h1 n1
 walk_nrm
 refine .ctl hT rfl (fun w=>cd w) ?_
 repeat (refine .ctl hT rfl (fun w=>gQ w) ?_)
 refine .ctl hT rfl (fun w=>dC w) ?_;simp only [List.size_toArray,List.length_cons,List.length_nil,Nat.reduceAdd,Nat.zero_add,List.range,List.range.loop];refine m7 (x:=(.slice (some ⟨gb,0,none⟩) n cp)) hb8 rfl rfl rfl (.pure _) (fun v1 _=>by simp [execOp,Act.eval,Instr.makeFunc]) fun v1 h1 n1=>?_
 replace hG:=bo.trans hG h1;clear h1 n1
 walk_nrm
 refine rCall (f:=26) (args:=#[.slice (some ⟨gb,0,none⟩) n cp]) (R:=fun v=>bG v (.int .i64 0)) hb8 rfl rfl rfl (fun v2=>?_) (fun v2 h2 n2=>H.wr v2 _ (hG.trans h2) n2 (Nat.le_refl _) (hG.trans h2).size) (fun v2 h2 b hb2=>?_) fun v2 val v3 h2 ⟨hq,hq2⟩ v4 h4 n4=>?_
 ·have:=dZ (P:=Tryz.prog) enters20 (#[.slice (some ⟨gb,0,none⟩) n cp]) (pm:=pmM u0.heap.size) (fr:=u0.heap.size) v2
  simpa [execOp,resolve,Deferred.ofValue,invoke,Act.eval] using this
 ·exact hb2.elim (fun h=>Nat.le_trans hG.size (Nat.le_trans h2.size h)) fun h=>h.elim
 obtain rfl:=Ending.returned.inj hq;have hK:aJ dI u0 v4:=((aJ.ed (hG.trans h2)).trans hq2).trans (.ed h4);clear hG hq2 h4 h2
 walk_nrm
 refine m7 (x:=(.int .i64 0)) hb8 rfl rfl rfl (.pure _) (fun v1 _=>by simp [execOp,Act.eval,Instr.makeFunc]) fun v1 h1 n1=>?_
 replace hK:=kg hK h1;clear h1 n1
 walk_nrm
 refine .ctl hT rfl (fun w=>cd w) ?_
 repeat (refine .ctl hT rfl (fun w=>gQ w) ?_)
 refine .ctl hT rfl (fun w=>dC w) ?_;simp only [List.size_toArray,List.length_cons,List.length_nil,Nat.reduceAdd,Nat.zero_add,List.range,List.range.loop];refine m7 (x:=(.int .i64 0)) hb8 rfl rfl rfl (.pure _) (fun v1 _=>by simp [execOp,Act.eval,Instr.makeFunc]) fun v1 h1 n1=>?_
 replace hK:=kg hK h1;clear h1 n1
 walk_nrm
 refine m7 (x:=(.bool false)) hb8 rfl rfl rfl rZ (fun v1 _=>pA (dg (b:=false) rfl (by decide)) v1) fun v1 h1 n1=>?_
 replace hK:=kg hK h1;clear h1 n1
 walk_nrm
 refine .ctl hT rfl (fun w=>cd w) ?_;refine .ctl hT rfl (fun w=>sr (t:=false) w rfl) ?_;simp only [if_true,if_false,Bool.false_eq_true,↓reduceIte];refine .ctl hT rfl (fun w=>xn w) ?_
 repeat (refine .ctl hT rfl (fun w=>gQ w) ?_)
 refine .ctl hT rfl (fun w=>dC w) ?_;simp only [List.size_toArray,List.length_cons,List.length_nil,Nat.reduceAdd,Nat.zero_add,List.range,List.range.loop];refine .stop ⟨rfl,hK,fun v5 h5 n5=>⟨_,?_,fun w hw=>((alloc_step hb8 rfl rfl rfl w).trans (by rw [hw])),?_⟩⟩
 ·rfl
 replace hK:=kg hK h5;clear h5 hT e
 walk_nrm
 obtain ⟨Wg,hWg⟩:∃ Wg,v5.heap.size = Wg:=⟨_,rfl⟩;have hWu:u0.heap.size ≤ Wg:=by rw [← hWg]; exact hK.size
 have hP:=ph_start (o:=wgBlock 102 0 0) (l:=[0,n - 1,5]) hK hWg H.lt (H.apart hWu);have hF:=finF_closed (kind:=kind) (cs:=cs) (u0:=u0) (C:=C) (n:=n) (Fx:=Fx);rw [hWg]
 generalize jC { v5 with heap:=v5.heap.push (wgBlock 102 0 0) } Wg C [0,n - 1,5] = v6 at hP ⊢
 have hT:=nK (P:=Tryz.prog) (ty:=102) (Wg:=Wg) (C:=C) (n:=n) (fv:=.bool false) (tv:=.bool true) hF (n - 1 + 2) (Wg + 1);refine .ctl hT rfl (fun w=>cd w) ?_
 repeat (refine .ctl hT rfl (fun w=>gQ w) ?_)
 refine .ctl hT rfl (fun w=>dC w) ?_;simp only [List.size_toArray,List.length_cons,List.length_nil,Nat.reduceAdd,Nat.zero_add,List.range,List.range.loop];refine m7 (x:=(.slice (some ⟨gb,0,none⟩) n cp)) hb8 rfl rfl rfl (.pure _) (fun v1 _=>by simp [execOp,Act.eval,Instr.makeFunc]) fun v1 h1 n1=>?_
 replace hP:=pg hP h1;clear h1 n1
 walk_nrm
 refine m7 (x:=.int .i64 n) hb8 rfl rfl rfl (exec_len ▸ tm_lenG Tryz.underlying39) (fun v1 _=>(congrArg (fun e=>Sem.run Tryz.prog e v1) exec_len).trans (run_lenG Tryz.underlying39 v1)) fun v1 h1 n1=>?_
 replace hP:=pg hP h1;clear h1 n1
 walk_nrm
 refine m7 (x:=(.int .i64 0)) hb8 rfl rfl rfl (.pure _) (fun v1 _=>by simp [execOp,Act.eval,Instr.makeFunc]) fun v1 h1 n1=>?_
 replace hP:=pg hP h1;clear h1 n1
 walk_nrm
 refine .ctl hT rfl (fun w=>cd w) ?_;refine .ctl hT rfl (fun w=>tU w) ?_;refine .ctl hT rfl (fun w=>gR_loop w) ?_;have eg:[0,n - 1,5] = rU n:=by
  obtain ⟨m,rfl⟩:∃ m,n = m + 1:=⟨n - 1,by have:=H.pos; omega⟩
  rfl
 have et:n - 1 + 2 = n + 1:=by have:=H.pos; omega
 rw [eg] at hP;rw [et];clear eg et hT;have hpos:=H.pos;have hfew:=H.few;refine (show ∀ (r j:Nat),j + r = n→∀ (ji:Int) (x6 x15 x16 x17 x18 x19 x20:Value) (fr:Nat) (v:World),ji = j→Ph u0 C Wg fr (rU r) v→Wg < fr →
  cQ (XB Tryz.prog 102 Wg n) Tryz.prog true (pmM fr) fr (TM Tryz.prog 102 Wg C n (.bool false) (.bool true) (FinF kind cs u0 C n Fx) (r + 1) fr) (G ((g7 9 kind).atR ⟨#[.slice (some ⟨gb,0,none⟩) n cp,undef,.int .i64 0,.int .i64 0,ptr Wg,undef,x6,.slice (some ⟨gb,0,none⟩) n cp,.int .i64 0,.int .i64 0,.bool false,undef,.slice (some ⟨gb,0,none⟩) n cp,.int .i64 n,.int .i64 ji,x15,x16,x17,x18,x19,x20,undef],[]⟩ _) cs) v from ?_) n 0 (by omega) 0 undef undef undef undef undef undef undef (Wg + 1) _ rfl hP (by omega)
 clear hP;intro r
 induction r with
 | zero =>
   intro j hj ji x6 x15 x16 x17 x18 x19 x20 fr v hji hP hWf;have hT:=nK (P:=Tryz.prog) (ty:=102) (Wg:=Wg) (C:=C) (n:=n) (fv:=.bool false) (tv:=.bool true) hF (0 + 1) fr;subst hji
   repeat (refine .ctl hT rfl (fun w=>gQ w) ?_)
   refine .ctl hT rfl (fun w=>dC w) ?_;simp only [List.size_toArray,List.length_cons,List.length_nil,Nat.reduceAdd,Nat.zero_add,List.range,List.range.loop];refine m7 (x:=(.bool false)) hb8 rfl rfl rfl rZ (fun v1 _=>pA (dg (op:=.lss) (b:=false) (lss_f (by omega)) (by decide)) v1) fun v1 h1 n1=>?_
   replace hP:=pg hP h1;clear h1 n1
   walk_nrm
   refine .ctl hT rfl (fun w=>cd w) ?_
   repeat (refine .ctl hT rfl (fun w=>gQ w) ?_)
   refine .ctl hT rfl (fun w=>sr (t:=false) w rfl) ?_;simp only [if_true,if_false,Bool.false_eq_true,↓reduceIte];refine .ctl hT rfl (fun w=>gR_exit w rfl) ?_
   repeat (refine .ctl hT rfl (fun w=>gQ w) ?_)
   refine .ctl hT rfl (fun w=>dC w) ?_;simp only [List.size_toArray,List.length_cons,List.length_nil,Nat.reduceAdd,Nat.zero_add,List.range,List.range.loop];refine rEnter (f:=30) (args:=#[ptr Wg]) hb8 rfl rfl rfl (fun v2=>?_) fun v7 h7 n7=>?_
   ·have:=dZ (P:=Tryz.prog) entersWait (#[ptr Wg]) (pm:=pmM fr) (fr:=fr) v2
    simpa [execOp,resolve,Deferred.ofValue,invoke,Act.eval] using this
   replace hP:=pg hP h7;rw [enterWait];refine (waitX (b₀:=g7 9 kind) wgH (B:=fun v=>B0 u0 C v) (fun v v1 h g=>kg h g) (fun v l h=>xG h hWu) (fv:=.bool false) (tv:=.bool true) (B2:=B2 u0 C n Fx) (fun v v1 h g=>xF hFx h g) fun v hv=>?_).2 v7 hP.2 hP.1;have hT:=endT_closed (kind:=kind) (cs:=cs) (u0:=u0) (C:=C) (n:=n) hFx;rw [← Frame.atR_of_none (b:=g7 9 kind) rfl]
   walk_nrm
   refine .ctl hT rfl (fun w=>cd w) ?_
   repeat (refine .ctl hT rfl (fun w=>gQ w) ?_)
   refine .ctl hT rfl (fun w=>dC w) ?_;simp only [List.size_toArray,List.length_cons,List.length_nil,Nat.reduceAdd,Nat.zero_add,List.range,List.range.loop];refine m7 (x:=.int .i64 0) hb8 rfl rfl rfl (.pure _) (fun v1 _=>by simp [execOp,Act.eval]) fun v1 h1 n1=>?_
   replace hv:B2 u0 C n Fx v1:=xF hFx hv h1
   walk_nrm
   refine .ctl hT rfl (fun w=>cd w) ?_;refine .ctl hT rfl (fun w=>gR_ret (b:=g7 9 kind) w rfl) ?_;exact .stop ⟨hv,_,_,rfl,rfl⟩
 | succ r ih =>
   intro j hj ji x6 x15 x16 x17 x18 x19 x20 fr v hji hP hWf;have hT:=nK (P:=Tryz.prog) (ty:=102) (Wg:=Wg) (C:=C) (n:=n) (fv:=.bool false) (tv:=.bool true) hF (r + 1 + 1) fr;subst hji
   repeat (refine .ctl hT rfl (fun w=>gQ w) ?_)
   refine .ctl hT rfl (fun w=>dC w) ?_;simp only [List.size_toArray,List.length_cons,List.length_nil,Nat.reduceAdd,Nat.zero_add,List.range,List.range.loop];refine m7 (x:=(.bool true)) hb8 rfl rfl rfl rZ (fun v1 _=>pA (dg (op:=.lss) (b:=true) (lss_t (by omega)) (by decide)) v1) fun v1 h1 n1=>?_
   replace hP:=pg hP h1;clear h1 n1
   walk_nrm
   refine .ctl hT rfl (fun w=>cd w) ?_
   repeat (refine .ctl hT rfl (fun w=>gQ w) ?_)
   refine .ctl hT rfl (fun w=>sr (t:=true) w rfl) ?_;simp only [if_true,if_false,Bool.false_eq_true,↓reduceIte];refine .ctl hT rfl (fun w=>xn w) ?_
   repeat (refine .ctl hT rfl (fun w=>gQ w) ?_)
   refine .ctl hT rfl (fun w=>tU w) ?_
   repeat (refine .ctl hT rfl (fun w=>gQ w) ?_)
   refine .ctl hT rfl (fun w=>dC w) ?_;simp only [List.size_toArray,List.length_cons,List.length_nil,Nat.reduceAdd,Nat.zero_add,List.range,List.range.loop];have hjn:j < n:=by omega
   refine m7 (x:=.pointer (some ⟨gb,j,none⟩)) hb8 rfl rfl rfl (.bind (.indexAt _ _ _) fun _=>.pure _) (fun v1 _=>?_) fun v1 h1 n1=>?_
   ·simp [execOp,Act.eval,Instr.indexAt,asIntOf,Tryz.runUnderlying39,Tryz.sizeOf98,Addr.add,hjn]
    first | done | omega | (intro e; exact e.symm)
   replace hP:=pg hP h1;clear h1 n1
   walk_nrm
   refine m7 (x:=.func (.func 21) #[] (cap j)) hb8 rfl rfl rfl (.bind (.bind (.sureAddr _) fun _=>.loadVar _ _) fun _=>.pure _) (fun v1 h1=>?_) fun v1 h1 n1=>?_
   ·have hc:v1.cell? ⟨gb,j,none⟩ = some (.func (.func 21) #[] (cap j)):=(kg hP.b h1).cell (H.cell j hjn) H.ne;simp [Act.eval,execOp,go_sem,hc]
   replace hP:=pg hP h1;clear h1 n1
   walk_nrm
   refine rPush (ob:=fun _=>.cells #[.nilFunc] 98) hb8 rfl rfl rfl (.bind (.bind (.zeroValue _) fun _=>.bind (.newVar _ _) fun _=>.pure _) fun _=>.pure _) (fun v1 _=>?_) fun v7 h7 n7=>?_
   ·simp [execOp,Instr.alloc,go_sem,ptr,Tryz.zeroValue98,newVar,newRow]
   replace hP:=pg hP h7;clear h7 n7
   walk_nrm
   obtain ⟨box,hbox⟩:∃ box,v7.heap.size = box:=⟨_,rfl⟩;rw [hbox];have hWl:Wg < box:=hbox ▸ aw hP.g;have hub:u0.heap.size ≤ box:=hbox ▸ hP.b.size;have hfb:fr ≤ box:=hbox ▸ hP.f;have hbn:({ v7 with heap:=v7.heap.push (.cells #[.nilFunc] 98) }:World).heap[box]? = some (.cells #[.nilFunc] 98):=by simp [← hbox]
   replace hP:Ph u0 C Wg fr (rU (r + 1)) { v7 with heap:=v7.heap.push (.cells #[.nilFunc] 98) } :=
    ⟨hP.b.trans (.alloc _ v7 _),by show (v7.heap.push _)[Wg]? = _; rw [Array.getElem?_push_lt (by omega),← hP.g]; simp [hbox,hWl],by simp; omega⟩
   generalize ({ v7 with heap:=v7.heap.push (.cells #[.nilFunc] 98) }:World) = v8 at hbn hP ⊢
   refine rPut (f:=fun v1=>v1.setRow box #[.func (.func 21) #[] (cap j)]) hb8 rfl rfl rfl (.bind (.known (b:=⟨box,0,none⟩) (.sureAddr _) (fun v=>rfl) (.storeVar _ _ _ hfb hfb)) fun _=>.pure _) (fun v1 h1=>?_) fun v9 h9 n9=>?_
   ·have:=run_storeVar_one (P:=Tryz.prog) v1 box 98 98 .nilFunc (.func (.func 21) #[] (cap j)) (by rw [h1.old _ (aw hbn)]; exact hbn) (by kernel_rfl) rfl;simp [execOp,Act.eval,Instr.storeAt,Instr.sureAddr,ptr,this]
   replace hbn:v9.heap[box]? = some (.cells #[.nilFunc] 98):=by rw [h9.old _ (aw hbn)]; exact hbn
   replace hP:=pg hP h9;have hB:Bx u0 C fr box (cap j) (v9.setRow box #[.func (.func 21) #[] (cap j)]) :=
    ⟨hP.b.trans' (gC _ _ _) fun i hi e=>by omega,by simpa using hP.f,by simp [World.cell?,setRow_heap _ _ _ #[.func (.func 21) #[] (cap j)] _ _ hbn]⟩
   replace hP:Ph u0 C Wg fr (rU (r + 1)) (v9.setRow box #[.func (.func 21) #[] (cap j)]):=⟨hB.b,(setRow_other _ _ _ _ (by omega)).trans hP.g,hB.f⟩
   generalize v9.setRow box #[.func (.func 21) #[] (cap j)] = v10 at hB hP ⊢
   clear h9 n9 hbn
   walk_nrm
   refine .ctl hT rfl (fun w=>cd w) ?_
   repeat (refine .ctl hT rfl (fun w=>gQ w) ?_)
   refine .ctl hT rfl (fun w=>dC w) ?_;simp only [List.size_toArray,List.length_cons,List.length_nil,Nat.reduceAdd,Nat.zero_add,List.range,List.range.loop];refine rEnter (f:=27) (args:=#[ptr Wg,.int .i64 1]) hb8 rfl rfl rfl (fun v2=>?_) fun v11 h11 n11=>?_
   ·have:=dZ (P:=Tryz.prog) entersAdd (#[ptr Wg,.int .i64 1]) (pm:=pmM fr) (fr:=fr) v2
    simpa [execOp,resolve,Deferred.ofValue,invoke,Act.eval] using this
   replace hP:=pg hP h11;replace hB:=sx _ _ hB h11;clear h11 n11;rw [enterAdd];refine (addX (b₀:=g7 9 kind) wgH (B:=Bx u0 C fr box (cap j)) sx (fun v l h=>bx_setG hWu (by omega) v l h) ⟨rfl,fun v12 hg hB=>?_⟩).2 v11 hP.2 hB;replace hP:Ph u0 C Wg fr [0,r,2] v12:=⟨hB.b,hg,hB.f⟩;clear hg;rw [← Frame.atR_of_none (b:=g7 9 kind) rfl]
   walk_nrm
   refine .ctl hT rfl (fun w=>cd w) ?_;refine .ctl hT rfl (fun w=>dC w) ?_;simp only [List.size_toArray,List.length_cons,List.length_nil,Nat.reduceAdd,Nat.zero_add,List.range,List.range.loop];refine m7 (x:=.func (.func 28) #[] #[ptr Wg,ptr box]) hb8 rfl rfl rfl (.pure _) (fun v1 _=>by simp [execOp,Act.eval,Instr.makeFunc]) fun v1 h1 n1=>?_
   replace hP:=pg hP h1;replace hB:=sx _ _ hB h1;clear h1 n1
   walk_nrm
   have ej:n - (r + 1) = j:=by omega
   refine .stop ⟨rfl,hP.g,_,_,?_,rfl,fun u w hu nu mu=>spawn_step (d:=callW Wg box) hb8 rfl rfl rfl (by simp [execOp,resolve,Deferred.ofValue,Act.eval,callW,ptr]) rfl,fun u hu nu=>?_,fun u hu nu=>?_⟩
   ·rfl
   ·replace hB:=sx _ _ hB hu;have hbs:=hB.b.size;have hlt:∀ b,Mx C b→b < u.heap.size:=fun b hb=>Nat.lt_of_lt_of_le (H.lt b hb) hbs
    have hbx:¬ Mx C box:=fun e=>by have:=H.lt _ e; omega
    rw [ej];have get:∀ b,(iN C j (.bool false) u).heap[b]? = _:=fun b=>born_get (C:=C) (j:=j) (fv:=.bool false) (hlt _ (.inr rfl)) (hlt _ (.inl (.inr rfl))) (hlt _ (.inl (.inl rfl)))
    have sz:(iN C j (.bool false) u).heap.size = u.heap.size:=by simp only [iN,di]
    have kp:∀ {v1:World} (g1:bo (iN C j (.bool false) u) v1) (b:Nat),Mx C b→v1.heap[b]? = (iN C j (.bool false) u).heap[b]?:=fun g1 b hb=>g1.old b (by rw [sz]; exact hlt b hb)
    refine workerX (cap:=cap j) ?_ (by rw [sz]; exact Nat.le_refl _) fun v1 g1 n1=>H.gate j hjn v1 u.heap.size n1 (by have:=g1.size; rw [sz] at this; exact this) hbs ?_ ?_ ?_ ?_
    ·rw [← hB.c]; simp only [World.cell?]; rw [get,if_neg fun e=>hbx (.inr e),if_neg fun e=>hbx (.inl (.inr e)),if_neg fun e=>hbx (.inl (.inl e))]
    ·rw [kp g1 C (.inl (.inl rfl)),get,if_neg fun e=>H.apR (.inl e.symm),if_neg H.ap2,if_pos rfl]
    ·rw [kp g1 Duo.C2 (.inl (.inr rfl)),get,if_neg fun e=>H.apR (.inr e.symm),if_pos rfl]
    ·exact (kp g1 Duo.R (.inr rfl)).trans ((get Duo.R).trans (if_pos rfl))
    ·exact kg (((hB.b.trans (fD (.inl (.inl rfl)))).trans (fD (.inl (.inr rfl)))).trans (fD (.inr rfl))) g1
   ·replace hP:=pg hP hu;have hT:=nK (P:=Tryz.prog) (ty:=102) (Wg:=Wg) (C:=C) (n:=n) (fv:=.bool false) (tv:=.bool true) hF (r + 1) u.heap.size;have hWs:Wg < u.heap.size:=aw hP.g;have hPn:Ph u0 C Wg u.heap.size (rU r) (dw u Wg (gh (rU r))):=⟨xG hP.b hWu,cR hWs,by rw [di]; exact Nat.le_refl _⟩
    generalize dw u Wg (gh (rU r)) = v14 at hPn ⊢
    walk_nrm
    refine .ctl hT rfl (fun w=>cd w) ?_;refine .ctl hT rfl (fun w=>tT w) ?_;refine .ctl hT rfl (fun w=>dC w) ?_;simp only [List.size_toArray,List.length_cons,List.length_nil,Nat.reduceAdd,Nat.zero_add,List.range,List.range.loop];refine m7 (x:=.int .i64 ((j + 1:Nat):Int)) hb8 rfl rfl rfl rZ (fun v1 _=>pA (fun w=>by rw [iZ (.inl rfl)]; congr 2; simp only [IntKind.wrap_i64]; omega) v1) fun v1 h1 n1=>?_
    replace hPn:=pg hPn h1;clear h1 n1
    walk_nrm
    refine m7 (x:=(.int .i64 ((j + 1:Nat):Int))) hb8 rfl rfl rfl (.pure _) (fun v1 _=>by simp [execOp,Act.eval,Instr.makeFunc]) fun v1 h1 n1=>?_
    replace hPn:=pg hPn h1;clear h1 n1
    walk_nrm
    refine .ctl hT rfl (fun w=>cd w) ?_;refine .ctl hT rfl (fun w=>vU w) ?_;exact ih (j + 1) (by omega) _ _ _ _ _ _ _ _ _ _ rfl hPn hWs
end Go.Proofs.YtljifjflnakmoaaGreat
namespace Go.Proofs.YtljifjflnakmoaaGreat
open Go Go.Gx Go.Conc Go.ConcN Go.RowKit
open Go.ConcR (KK wgBlock WgAt stA smA rd wr mk Payload DC0 Bk g_of_ofEvents)
def outF (kind:CallKind):Frame:={ (g7 9 kind).atR ⟨#[undef,undef,.int .i64 0],[]⟩ [] with mode:=.returning }
def trues (n:Nat):Obj:=.cells (Array.replicate n (.bool true)) 4
def kr [Duo] (N0 n:Nat) (v:World):Prop :=
 ∃ γs:Nat→List Nat,(∀ i,n ≤ i→γs i = Duo.ini) ∧ uC v γs ∧ Row2 n v ∧
   ∀ i,i < n→∃ ui z,a9 ui ∧ Duo.mF i ui ∧ GhR ui (γs i) ∧ ui.heap[Duo.C2]? = some (slot i z) ∧ v.cell? ⟨Duo.C2,i,none⟩ = some z ∧ ∀ b,N0 ≤ b→b < ui.heap.size→Vis ui b→v.heap[b]? = ui.heap[b]?
theorem facts_grow [Duo] {N0 n:Nat}:Kg (kr N0 n):=fun v v1 ⟨γs,h1,⟨σ,h2,h3⟩,⟨cs,h4,h5⟩,h6⟩ g=>⟨γs,h1,⟨σ,by rw [g.old _ (aw h2)]; exact h2,h3⟩,⟨cs,by rw [g.old _ (aw h4)]; exact h4,h5⟩,fun i hi=>by
 obtain ⟨ui,z,k1,k2,k3,k4,k5,k6⟩:=h6 i hi;refine ⟨ui,z,k1,k2,k3,k4,?_,fun b hb hlt hv=>?_⟩
 ·rw [← k5]; simp only [World.cell?]; rw [g.old _ (aw h4)]
 ·have h7:=k6 b hb hlt hv;rw [g.old b (by rw [Array.getElem?_eq_getElem hlt] at h7; exact aw h7)];exact h7⟩
def FreeOut [Duo] (u0:World) (C n:Nat) (v:World):Prop:=B2 u0 C n (kr u0.heap.size n) v
def KP (_:Bool) (g:Goroutine) (v _:World) (S:Goroutine→World→Prop):Prop :=
 ∃ (d:Duo) (kind:CallKind) (cs:List Frame) (C gb n cp:Nat) (cap:Nat→Array Value),kind ≠ .early ∧ g = G (Frame.enter Tryz.prog 9 #[.slice (some ⟨gb,0,none⟩) n cp] kind) cs ∧ uL v C gb n cp cap ∧ ∀ v',FreeOut v C n v'→S (G (outF kind) cs) v'
def XP:Ext:=⟨fun _ _=>True,KP,fun _=>False,fun _=>True,fun ⟨d,kind,cs,C,gb,n,cp,cap,h1,h2,h3,h4⟩ hS=>⟨d,kind,cs,C,gb,n,cp,cap,h1,h2,h3,fun v' h=>hS _ _ (h4 v' h)⟩⟩
theorem out_results {pm:Nat→Prop} {fr:Nat} (v:World):(results Tryz.f9 #[undef,undef,.int .i64 0]).wpS Tryz.prog pm fr (fun x v2=>x = .int .i64 0 ∧ v2 = v) v:=by
 have h:results Tryz.f9 #[undef,undef,.int .i64 0] = pure (.int .i64 0):=by simp [results,Tryz.f9]
 rw [h];exact ⟨rfl,rfl⟩
theorem free_ok {fr:Nat} {w:World} {C gb n cp:Nat} {cap:Nat→Array Value} {M:Nat→Prop} {Q:World→Prop} (H:∀ v1,bo w v1→a9 v1→∃ d:Duo,@uL d v1 C gb n cp cap ∧ ∀ v',@FreeOut d v1 C n v'→Q v'):eo XP fr Tryz.prog 9 #[.slice (some ⟨gb,0,none⟩) n cp] w ⟨M,fun e w'=>e = .returned (.int .i64 0) ∧ Q w'⟩:=fun main kind cs hk =>
 .gen rfl false (fun e=>by cases e) fun v1 w1 m _=>by
  obtain ⟨d,hG,hQ⟩:=H v1 m.grow m.nv;exact .inr ⟨d,kind,cs,C,gb,n,cp,cap,hk,rfl,hG,fun v' ho=>.stop ⟨outF kind,.int .i64 0,v',rfl,rfl,⟨rfl,hQ v' ho⟩,.refl _,rfl,rfl,_,Tryz.func9,fun v2 _ _=>out_results v2⟩⟩
theorem out_alike {kind:CallKind} {cs:List Frame} {T:Array Value} {td:List Item} (hT:T[2]? = some (.int .i64 0)):Gx.Alike Tryz.prog (G { (g7 9 kind).atR ⟨T,[]⟩ td with mode:=.returning } cs) (G (outF kind) cs):=by
 refine ⟨rfl,fun w=>?_⟩;simp [G,stepG,unwind,Frame.atR,outF,g7,Tryz.func9,results,Tryz.f9,hT];cases cs <;> first | rfl | (cases kind <;> rfl)
theorem free_comes [Bad] {gs:Array Goroutine} {q:Nat→Nat} {t:Trace} {Shun:Loc→Prop} {d0:Nat} {sl0 sl1:Option (Nat × Nat)} {ga g:Goroutine} {u w:World} {S:Goroutine→World→Prop} (hk:KP true g u w S) (al:Gx.Alike Tryz.prog ga g) (hB:cu Tryz.prog Shun t gs q ga u w) (hp:pd Tryz.prog gs w d0 sl0 sl1) :
 Gx.Comes Tryz.prog (crowd gs (w.at d0) sl0) t S:=by
 obtain ⟨d,kind,cs,C,gb,n,cp,cap,hkd,rfl,H,hS⟩:=hk;have hFx:Kg (kr u.heap.size n):=facts_grow;obtain ⟨N1,gs1,w1,sl1',t1,q1,Sh1,ga1,g1,v1,u1,h1,⟨hr1,hK1,hst1⟩,hg1,al1,hB1⟩:=run_picked (X:=X0) (fun _ _=>trivial) (fun _ h=>h) (fun _ _ _ _ _ _ _ _ _ _ _ _ h=>h.elim) (freeX hkd hFx H) (.refl _) al hB hp;obtain ⟨N2,gs2,q2,t2,d2,sl2,sl3,d3,h2,hp2,hB2⟩:=cu.mw (al1.st.trans hr1) _ gs1 q1 t1 u1 w1 sl1' (Nat.le_refl _) hB1;have hg2:=hg1.trans (bo.at u1 d2);have hK2:aJ dI u (u1.at d2):=hK1.trans (.ed hg2);obtain ⟨g2,hr2,hstep,hrun⟩:=hst1 (u1.at d2) hg2 hB2.nv;obtain ⟨gs3,ops3,h3,hB3,hfr⟩:=cu.made (sl:=sl3) (o:=wgBlock 102 0 0) hB2 al1 rfl rfl hstep;have hsz:=hK2.size;have hone:∀ m ops,runT Tryz.prog (crowd gs2 (w1.at d2) sl3) 0 = (.next m,ops)→runNT Tryz.prog 1 (crowd gs2 (w1.at d3) sl2) t2 = (.next m,t2 ++ ops):=fun m ops h=>by
  simp only [runNT,hp2,h]
 generalize u1.at d2 = u2 at *
 obtain ⟨Wg,hWg⟩:∃ Wg,u2.heap.size = Wg:=⟨_,rfl⟩;have A:Apart Wg C:=H.apart (by omega);have cn:∀ {b:Nat} {o:Obj},u.heap[b]? = some o→({ u2 with heap:=u2.heap.push (wgBlock 102 0 0) }:World).heap[b]? = some o:=fun {b o} hb=>by
  have hlt:=aw hb;rw [← hb,← hK2.block b hlt id];exact (aJ.alloc dI u2 (wgBlock 102 0 0)).block b (by omega) id
 have hW3:({ u2 with heap:=u2.heap.push (wgBlock 102 0 0) }:World).heap[Wg]? = some (wgBlock 102 0 0):=by simp [← hWg]
 obtain ⟨σ0,hR0,hJ0⟩:=H.hereR;have hC3:=cn H.here;have h23:=cn H.here2;have hR3:=cn hR0;have hcell:∀ b,(Row C b ∨ b = Duo.R ∨ b = Wg)→∀ a:Addr,a.block = b→¬ Sh1 (.cell a):=fun b hb a ha hs=>by
  refine (hB3.hid _ hs).pI fun o ho=>?_
  rw [ha] at ho
  rcases hb with (rfl | rfl) | rfl | rfl
  ·rw [hC3] at ho; cases ho; rfl
  ·rw [h23] at ho; cases ho; rfl
  ·rw [hR3] at ho; cases ho; rfl
  ·rw [hW3] at ho; cases ho; rfl
 have hKR:∀ b,(Row C b ∨ b = Duo.R ∨ b = Wg)→¬ ((b < u.heap.size ∧ ¬ Mx C b) ∨ ∃ a:Addr,a.block = b ∧ Sh1 (.cell a)):=fun b hb hK=>by
  rcases hK with ⟨hK1,hK2⟩ | ⟨a,ha,hs⟩
  ·rcases hb with hb | rfl | rfl
   ·exact hK2 (.inl hb)
   ·exact hK2 (.inr rfl)
   ·omega
  ·exact hcell b hb a ha hs
 rw [hWg] at hrun hfr;obtain ⟨N4,m4,t4,h4,gs4,w4,sl4,q4,Sh4,g4,v4,u4,γs,rfl,⟨hb4,hc4⟩,hg4,hm4,hrow,hpay2,⟨σ,hword,hJ⟩,hend,hini,hB4⟩:=phaseB (P:=Tryz.prog) (ty:=102) (fv:=.bool false) (tv:=.bool true) (Fin:=FinF kind cs u C n (kr u.heap.size n)) (C:=C) (n:=n) (Wg:=Wg) (sl:=sl3) (K:=fun b=>(b < u.heap.size ∧ ¬ Mx C b) ∨ ∃ a:Addr,a.block = b ∧ Sh1 (.cell a)) (by have:=H.few; omega) H.pos hB3 hr2 hW3 hC3 h23 hR3 hJ0 A H.ap2
  (fun l ⟨a,h5,h6⟩=>by subst h5; exact hfr a h6) (fun a hs=>.inr ⟨a,rfl,hs⟩) hKR (by rw [show ({ u2 with heap:=u2.heap.push (wgBlock 102 0 0) }:World).heap.size = Wg + 1 by simp [hWg]]; exact hrun)
 have hk4:aJ (Mx C) u u4:=kg hb4 hg4;have shown:∀ {b:Nat} {c:Array Value} {e:TypeId},(Row C b ∨ b = Duo.R)→w4.heap[b]? = some (.cells c e (0,0))→(opened (fun b=>(b < u.heap.size ∧ ¬ Mx C b) ∨ ∃ a:Addr,a.block = b ∧ Sh1 (.cell a)) Wg u4 w4).heap[b]? = some (.cells c e (0,0)):=fun {b c e} hb hw=>by
  rw [opened_w (hKR b (hb.imp id .inl)) (fun e=>by subst e; exact hb.elim A.cw fun e=>A.rw e.symm) fun o ho=>by rw [hw] at ho; cases ho; rfl];exact hw
 obtain ⟨cs2,hcs2,hcsz⟩:=hpay2;have hB24:B2 u C n (kr u.heap.size n) (opened (fun b=>(b < u.heap.size ∧ ¬ Mx C b) ∨ ∃ a:Addr,a.block = b ∧ Sh1 (.cell a)) Wg u4 w4):=by
  refine ⟨⟨hm4.os.trans hk4.os,hm4.tape.trans hk4.tape,hm4.output.trans hk4.output,by rw [na,hm4.size]; exact hk4.size,fun b hb hM=>(tx hm4 (.inl ⟨hb,hM⟩)).trans (hk4.block b hb hM)⟩,shown (.inl (.inl rfl)) hrow,γs,hini,⟨σ,shown (.inr rfl) hword,hJ⟩,⟨cs2,shown (.inl (.inr rfl)) hcs2,hcsz⟩,fun i hi=>?_⟩;obtain ⟨ui,E⟩:=hend i hi;obtain ⟨z,hz⟩:=E.cell Duo.C2 (.inr rfl);refine ⟨ui,z,E.nv,E.post,E.gh,hz,?_,fun b hb hlt hv=>?_⟩
  ·obtain ⟨c,e,k1,k2⟩:=E.msk.slot _ _ _ hz;exact oG (shown (.inl (.inr rfl)) k1) k2
  ·have hwb:=E.msk.vis b hv;rw [opened_w (fun hK=>?_) (fun e=>?_) (fun o ho=>?_)]
   ·exact hwb
   ·rcases hK with ⟨hK1,_⟩ | ⟨a,ha,hs⟩
    ·omega
    ·exact (E.hid _ hs).pI (ha ▸ hv)
   ·obtain ⟨o,ho,hh⟩:=E.xi;have:=hv o (by rw [e]; exact ho);rw [gM hh] at this; cases this
   ·rw [hwb] at ho;have k1:=hv o ho;have k2:=E.nv b o ho;simp [fF,k1,k2]
 obtain ⟨N5,gs5,w5,sl5,t5,q5,Sh5,ga5,g5,v5,u5,h5,⟨hb5,T,td,hT,rfl⟩,hg5,al5,hB5⟩:=oO (X:=X0) (fun _ _=>trivial) (fun _ h=>h) (fun _ _ _ _ _ _ _ _ _ _ _ _ h=>h.elim) (hc4 _ hB24) gs4 q4 t4 Sh4 sl4 g4 _ w4 (.refl _) (.refl _ _) hB4;exact ⟨_,gs5,w5,sl5,t5,q5,Sh5,ga5,_,v5,u5,ic h1 (ic h2 (ic (hone _ _ h3) (ic h4 h5))),hS v5 hb5,hg5,⟨al5.st.trans rfl,fun x=>(al5.step x).trans ((out_alike hT).step x)⟩,hB5⟩
end Go.Proofs.YtljifjflnakmoaaGreat
namespace Go.Proofs.YtljifjflnakmoaaGreat
open Go Go.Gx Go.RowKit
section
variable {K:Ctx} {F:Fr} {L:List Res} {g:Bool} {Q:Exit→Act→World→Prop} {N:Act→World→Prop} {ops:Array Oper}
 {op:Op} {ty t t':TypeId} {pos:String} {af:Array Edge} {d:Nat} {x y:Operand}
theorem Ev.eqlFn {f:Fn} {fst cap:Array Value} {ps rs:Array TypeId} {vr:Bool} {P:Program} (ht:P.underlying t = some (.func ps rs vr)) (hx:Opd F g x (.func f fst cap)) (hy:Opd F g y .nilFunc):Ev P K F L g (.binOp .eql t x y t') ty (.bool false):=.of rfl (fun hg ac G w _ dst pos af gd=>by
 show Tm P _ _ ((do eqGuard .eql t x y (ac.eval x) (ac.eval y); binOp .eql t (ac.eval x) (ac.eval y):Sem Value) >>= fun r=>pure (Next.value r));rw [hx.eval hg G,hy.eval hg G];have e1:binOp .eql t (.func f fst cap) .nilFunc = (do pure (.bool (← Op.equal t (.func f fst cap) .nilFunc))):=rfl;rw [e1];refine .bind (.bind (by unfold eqGuard; exact .pure _) fun _=>.bind ?_ fun _=>.pure _) fun _=>.pure _
 show Tm P _ _ (Op.equalIn (9999 + 1) t (.func f fst cap) .nilFunc);unfold Op.equalIn;refine .under ht ?_;exact .pure _) fun hg ac G w _ dst pos af gd=>by
 have hru:(underlying t).run P w = .ok (.func ps rs vr) w:=by simp [underlying,ht]
 have hg1:(eqGuard .eql t x y (.func f fst cap) .nilFunc).run P w = .ok () w:=by
  unfold eqGuard
  rfl
 have hE:∀ d:Nat,(Op.equalIn (d + 1) t (.func f fst cap) .nilFunc).run P w = .ok false w:=fun d=>by
  unfold Op.equalIn;rw [Sem.run_bind,hru]
  rfl
 have he:(Op.equal t (.func f fst cap) .nilFunc).run P w = .ok false w:=hE 9999;have hb:(binOp .eql t (.func f fst cap) .nilFunc).run P w = .ok (.bool false) w:=by
  have e1:binOp .eql t (.func f fst cap) .nilFunc = (do pure (.bool (← Op.equal t (.func f fst cap) .nilFunc))):=rfl;rw [e1];simp only [Sem.run_bind,he,Result.andThen_ok,Sem.run_pure]
 simp only [execOp,hx.eval hg G,hy.eval hg G,Sem.run_bind,hg1,hb,Result.andThen_ok,Sem.run_pure]
def qV (C n:Nat) (z:Value) (e:TypeId):Res:=⟨fun i=>i = C,fun w=>w.heap[C]? = some (.cells (Array.replicate n z) e),fun w w' h ha=>(h C rfl).trans ha⟩
theorem wI {α:Type} {E:Enc α} {x:α} (hc:E.cells x = [E.val x]):∀ n:Nat,E.row (List.replicate n x) = List.replicate n (E.val x)
 | 0=>rfl
 | n + 1=>by
   rw [List.replicate_succ,List.replicate_succ,← wI hc n];show E.cells x ++ E.row _ = _;rw [hc]; rfl
theorem row_fn:∀ l:List OV,(ovE cK).row l = l.map OV.v
 | []=>rfl
 | x :: l=>by rw [List.map_cons,← row_fn l]; rfl
theorem isSl_rowV {α:Type} {E:Enc α} {x:α} {C n:Nat} {e:TypeId} (hc:E.cells x = [E.val x]) (h1:E.size = 1) (hn:n ≤ 1048576) (hm:qV C n (E.val x) e ∈ L) (w:World) (I:aP K L w):aO E w (.slice (some ⟨C,0,none⟩) n n) (List.replicate n x):=by
 have h:w.heap[C]? = _:=(I.own _ hm).1;have hm:maxLen = 9223372036854775807:=rfl;refine ⟨_,n,by rw [List.length_replicate],by rw [List.length_replicate]; exact Nat.le_refl _,by omega,fun e=>(by cases e),fun p hp=>?_⟩;cases hp;refine ⟨fun _=>rfl,fun j u hu=>?_⟩;rw [wI hc,List.getElem?_replicate] at hu;simp only [World.cell?,h,Nat.zero_add]
 simpa [Array.getElem?_replicate] using hu
theorem makeRowV {α:Type} (E:Enc α) (z:α) {n:Nat} {t e:TypeId} {by_:Nat} (ht:Tryz.prog.underlying t = some (.slice e)) (hi:(Tryz.prog.info? e).map (fun i=>(i.zero,i.bytes,i.size)) = some (some (E.val z),by_,1)) (hc:E.cells z = [E.val z]) (h1:E.size = 1) (hb:by_ ≤ 1024) (hx:Opd F true x (I n)) (hy:Opd F true y (I n)) (hn:n ≤ 1048576)
 (next:∀ C,Sat K N ((d,true,.slice (some ⟨C,0,none⟩) n n) :: F) (qV C n (E.val z) e :: L)) (hd:Nat.blt d K.n = true:=by rfl) :
 Sat K (bH Tryz.prog K ops Q ⟨some d,.makeSlice t x y,ty,pos,af,none⟩ N) F L:=fun a w G=>by
 refine bF rfl rfl fun hnv=>?_
 obtain ⟨i,hi,hz1,hz2,hz3⟩:∃ i,Tryz.prog.info? e = some i ∧ i.zero = some (E.val z) ∧ i.bytes = by_ ∧ i.size = 1:=by
  cases hi':Tryz.prog.info? e with
  | none=>rw [hi'] at hi; cases hi
  | some i =>
    rw [hi'] at hi;simp only [Option.map_some,Option.some.injEq,Prod.mk.injEq] at hi;exact ⟨i,rfl,hi⟩
 have hbn:by_ * n ≤ 1048576 * 1024:=Nat.mul_comm n by_ ▸ Nat.mul_le_mul hn hb;have hr:=run_make (P:=Tryz.prog) w t e i (E.val z) ht hi hz1 .i64 .i64 n n (by omega) (by omega) (by rw [hz2]; omega) (by omega);have he:(execOp a.eval ⟨some d,.makeSlice t x y,ty,pos,af,none⟩).run Tryz.prog w = .ok (.value (.slice (some ⟨w.heap.size,0,none⟩) n n)) (w.alloc (.cells (Array.replicate n (E.val z)) e)):=by
  have hx':=hx.eval rfl G.fo;have hy':=hy.eval rfl G.fo;unfold I at hx' hy';have hc2:madeCells (E.val z).cells ((n:Int).toNat * i.size) = Array.replicate n (E.val z):=by
   rw [hz3];have:=rq E z n (by omega);have e:(Int.toNat n * 1) = n * E.size:=by rw [h1]; simp
   rw [e];apply Array.toList_inj.1;refine this.trans ?_;rw [wI hc];simp
  rw [hc2,Int.toNat_natCast] at hr;simp only [execOp,hx',hy',Sem.run_bind,hr,Result.andThen_ok,Sem.run_pure]
 refine nc he (.bind (.makeSlice _ _ _) fun _=>.pure _) hnv ?_;refine next w.heap.size _ _ (G.put d true _ _ (by simpa [Nat.blt_eq] using hd) rfl (G.inv.add (aJ.alloc _ _ _) (heap_alloc_new w _) ?_));intro b hb;have:b = w.heap.size:=hb;subst this;exact ⟨Nat.le_refl _,by simp⟩
end
end Go.Proofs.YtljifjflnakmoaaGreat
namespace Go.Gx
open Go Go.Conc Go.RowKit
def LvF (P:Program) (pm:Nat→Prop) (fr:Nat) (f:FuncId) (R:Value→World→Prop) (g:Goroutine) (v:World):Prop :=
 ∃ frm val v0,g = G frm [] ∧ frm.fn = f ∧ frm.kind = .normal ∧ R val v0 ∧ bo v0 v ∧ Leaves P pm fr frm val v
theorem LvF.closed {P:Program} {pm:Nat→Prop} {fr:Nat} {f:FuncId} {R:Value→World→Prop}:Closed (LvF P pm fr f R):=by
 rintro g v v1 ⟨frm,val,v0,h1,h1',h2,h3,h4,h5⟩ hg;exact ⟨frm,val,v0,h1,h1',h2,h3,h4.trans hg,h5.grow hg⟩
def CallF (X:Ext) (fr:Nat) (P:Program) (f:FuncId) (args:Array Value) (v:World) (R:cX):Prop :=
 cQ X P true (pmC v R.M) fr (LvF P (pmC v R.M) fr f (fun val v'=>R.Q (.returned val) v')) (G (Frame.enter P f args .normal) []) v
theorem callF_of_wp {X:Ext} {fr:Nat} {P:Program} {f:FuncId} {fn:Func} {c:Code} {args:Array Value} {v:World} {R:cX} (hf:P.funcs[f]? = some fn) (hb:fn.body = some c)
 (h:c.wpX P ⟨X,fr,none⟩ (pmC v R.M) (qS P fr fn (pmC v R.M) R) { tmps:=args ++ Array.replicate (fn.ntmps - args.size) undef,defers:=[] } v):CallF X fr P f args v R:=by
 have e:Frame.enter P f args .normal = (g7 f .normal).atR { tmps:=args ++ Array.replicate (fn.ntmps - args.size) undef,defers:=[] } [.code c]:=by
  simp [Frame.enter,Frame.atR,hf,hb,g7]
  rfl
 unfold CallF;rw [e];have lv:∀ (ds:List Deferred) (tm:Array Value) (v':World) (todo:List Item),nJ P fr fn (pmC v R.M) R tm ds v' →
  cQ X P true (pmC v R.M) fr (LvF P (pmC v R.M) fr f (fun val v'=>R.Q (.returned val) v')) (G { (g7 f .normal).atR ⟨tm,ds⟩ todo with mode:=.returning } []) v':=by
  intro ds
  induction ds with
  | nil =>
    rintro tm v' todo ⟨val,hr,hR⟩;exact .stop ⟨_,val,v',rfl,rfl,rfl,hR,.refl _,⟨rfl,rfl,fn,hf,hr⟩⟩
  | cons d ds ih =>
    rintro tm v' todo ⟨D,rfl,hD⟩;refine .go rfl fun v3 w3 m3=>?_
    obtain ⟨calls,v4,new,⟨rfl,hL⟩,q4,q6,qr⟩:=bY _ v3 (hD v3 m3.grow m3.nv);obtain ⟨w',q2,q5⟩:=qr w3 #[] m3.msk;rw [Array.empty_append] at q2;exact ⟨_,v4,⟨w',_,gR_take (a:=⟨tm,[]⟩) q2,q4,q5,ea q6⟩,ih tm v4 todo hL⟩
 refine h true _ (g7 f .normal) [] [] LvF.closed (fun h=>by cases h) rfl fun e a v' q=>?_
 cases e with
 | normal=>exact .ctl LvF.closed rfl (fun w=>gR_end w rfl) (lv a.defers a.tmps v' _ q)
 | ret=>exact fun k'=>.ctl LvF.closed rfl (fun w=>gR_ret w rfl) (lv a.defers a.tmps v' _ q)
 | exit id=>exact q.elim
 | goto l=>exact q.elim
 | panic ch=>exact q.elim
 | outgrown=>exact q.elim
theorem enterF {X:Ext} {fr:Nat} {P:Program} {f:FuncId} {fn:Func} {c:Code} {args:Array Value} {w:World} {R:cX} (n:Nat) (L:List Res)
 (hf:P.funcs[f]? = some fn) (hb:fn.body = some c) (hn:fn.ntmps = n) (hsz:args.size ≤ n) (hfr:fr ≤ w.heap.size) (hM:∀ b,R.M b→fr ≤ b) (hL:Ctx.OK ⟨n,w,R.M,⟨X,fr,none⟩⟩→aP ⟨n,w,R.M,⟨X,fr,none⟩⟩ L w)
 (h:Sat ⟨n,w,R.M,⟨X,fr,none⟩⟩ (c.wpX P ⟨X,fr,none⟩ (pmC w R.M) (bodyPost P ⟨n,w,R.M,⟨X,fr,none⟩⟩ fn R)) (dz :: kN 0 args.toList) L) (hn2:Nat.ble n 1000000 = true:=by rfl):CallF X fr P f args w R :=
 callF_of_wp hf hb (h _ _ ⟨enterFr rfl (Nat.le_of_ble_eq_true hn2) hn hsz,hL ⟨hfr,hM⟩⟩)
def mask (W:World):World:={ W with heap:=W.heap.map fun o=>if fF o then dummy else o }
theorem iG (W:World) (i:Nat):(mask W).heap[i]? = (W.heap[i]?).map fun o=>if fF o then dummy else o:=by simp [mask]
theorem qE (W:World):(mask W).heap.size = W.heap.size:=by simp [mask]
theorem mask_cells {W:World} {i:Nat} {o:Obj} (h:W.heap[i]? = some o) (hw:fF o = false):(mask W).heap[i]? = some o:=by rw [iG,h]; simp [hw]
theorem mask_cell (W:World) (a:Addr):(mask W).cell? a = W.cell? a:=by
 simp only [World.cell?,iG];cases h:W.heap[a.block]? with
 | none=>rfl
 | some o=>cases o <;> rfl
theorem beside_same {v w w':World} (h:Beside v w v w') (m:Msk v w) (iR:∀ (b k:Nat) z,v.heap[b]? ≠ some (slot k z)):w' = w:=by
 have hh:w'.heap = w.heap:=by
  apply Array.ext_getElem?;intro i
  rcases tri v i with h1 | ⟨o,h1,h2⟩ | ⟨k,x,h1⟩
  ·rw [h.msk.vis i h1,m.vis i h1]
  ·exact h.hid i o h1 h2
  ·exact absurd h1 (iR _ _ _)
 have h3:=h.msk.drawn.trans m.drawn.symm;obtain ⟨a1,a2,a3,a4,a5⟩:=w;obtain ⟨b1,b2,b3,b4,b5⟩:=w';have h4:=h.tape;have h5:=h.os;have h6:=h.output;simp only at hh h3 h4 h5 h6;subst hh h3 h4 h5 h6
 rfl
theorem ends_ok {X:Ext} {P:Program} {fr:Nat} {f:FuncId} {args:Array Value} {rv:Value} {W:World} (hin:P.inits.idxOf? f = none) (hfit:∀ v w,X.fits v w) (hblk:∀ g,¬ X.blk g)
 (hkind:∀ [Bad] (gs:Array Goroutine) (q:Nat→Nat) (t:Trace) (Shun:Loc→Prop) (d0:Nat) (sl0 sl1:Option (Nat × Nat)) (ga g:Goroutine) (u w:World) (S:Goroutine→World→Prop),X.kind true g u w S→Alike P ga g→cu P Shun t gs q ga u w→pd P gs w d0 sl0 sl1 →
  Comes P (crowd gs (w.at d0) sl0) t S)
 (h:CallF X fr P f args (mask W) (bG (mask W) rv)) :
 ∃ M last o w' t',runNT P (M + 1) (solo (G (Frame.enter P f args .normal) []) W) #[] = (.ended o w',t') ∧ runN P M (solo (G (Frame.enter P f args .normal) []) W) = .next last ∧ step P last = .ended o w' ∧
   Conc.Good P (fun v W'=>v = rv ∧ Below W.heap.size W W') last o w' t':=by
 letI:Bad:=⟨W,fun b=>∃ o,W.heap[b]? = some o ∧ fF o = true⟩;have nr:pe (mask W):=fun i k o x ho hr=>by
  rw [iG] at ho;obtain ⟨o',h1,rfl⟩:=Option.map_eq_some_iff.1 ho
  by_cases hw:fF o' = true
  ·rw [if_pos hw] at hr; exact iC hr
  ·rw [if_neg hw] at hr;simp [fF,gM hr.isH] at hw
 have hB:cu P (fun l=>∃ b o,l = .cell ⟨b,0,none⟩ ∧ W.heap[b]? = some o ∧ fF o = true) #[] #[G (Frame.enter P f args .normal) []] (fun _=>0) (G (Frame.enter P f args .normal) []) (mask W) W:=by
  refine ⟨rfl,leavers_one P _,⟨past_nil.clean,fun i a ha=>by simp [touchAt,Trace.act?] at ha,past_nil.over,rfl,by simp⟩,fun i op hi=>by simp at hi,fun a k=>by simp [Trace.act?],fun i o ho=>?_,⟨(qE W).symm,rfl,rfl,rfl,rfl,fun i hv=>?_,fun i k x hx=>?_,fun i k o x ho hr=>absurd hr (nr i k o x ho)⟩,fun l ⟨b,o,h1,h2,h3⟩=>h1 ▸ .mk0 (c:=#[]) ?_,fun b k z hz=>?_,nr,fun b ⟨o,h1,h2⟩=>⟨⟨b,o,rfl,h1,h2⟩,rfl⟩⟩
  ·rw [iG] at ho;obtain ⟨o',h1,rfl⟩:=Option.map_eq_some_iff.1 ho
   by_cases hw:fF o' = true
   ·rw [if_pos hw]; rfl
   ·rw [if_neg hw];simp only [fF,Bool.or_eq_true,not_or,Bool.not_eq_true] at hw;exact hw.2
  ·cases hW:W.heap[i]? with
   | none=>rw [iG,hW]; rfl
   | some o =>
     have h1:=iG W i;rw [hW,Option.map_some] at h1
     by_cases hw:fF o = true
     ·rw [if_pos hw] at h1;have:=hv _ h1;simp [isP,dummy] at this
     ·rw [if_neg hw] at h1; exact h1.symm
  ·rw [iG] at hx;obtain ⟨o',h1,h2⟩:=Option.map_eq_some_iff.1 hx
   by_cases hw:fF o' = true
   ·rw [if_pos hw] at h2; simp [dummy,slot] at h2
   ·rw [if_neg hw] at h2;subst h2;exact absurd rfl hw
  ·show (mask W).heap[b]? = _;rw [iG,h2,Option.map_some,if_pos h3]; rfl
  ·rw [iG] at hz;obtain ⟨o',h1,h2⟩:=Option.map_eq_some_iff.1 hz
   by_cases hw:fF o' = true
   ·rw [if_pos hw] at h2; simp [dummy,slot] at h2
   ·rw [if_neg hw] at h2;subst h2;exact absurd rfl hw
 obtain ⟨N,gs',w',sl',t',q',Sh',ga,g',v',u',h1,⟨frm,val,v0,rfl,hfn,hkd,⟨hv,hk⟩,hg0,hL⟩,hg,al,hB'⟩:=oO hfit hblk (fun gs q t Shun d0 sl0 sl1 ga g u w S=>hkind gs q t Shun d0 sl0 sl1 ga g u w S) h _ _ _ _ none _ _ _ (.refl _) (.refl _ _) hB;obtain rfl:=Ending.returned.inj hv;have hkept:∀ b o,W.heap[b]? = some o→fF o = true→w'.heap[b]? = W.heap[b]?:=fun b o h2 h3=>(hB'.kept b ⟨o,h2,h3⟩).2
 have end1:∀ w₁,AtRel w' w₁→AtEnd P Sh' w'.heap.size (fun v W'=>v = val ∧ Below W.heap.size W W') ga w₁:=by
  rintro w₁ ⟨d,rfl⟩;have hB1:=hB'.at d;have hLu:=hL.grow (hg.trans (bo.at u' d));obtain ⟨fn,hf,hres⟩:=hLu.res;obtain ⟨x,v3,new,⟨rfl,rfl⟩,q4,q6,qr⟩:=bY _ (u'.at d) (hres _ (.refl _) hB1.nv);obtain ⟨w3,q2,q5⟩:=qr (w'.at d) #[] hB1.msk;rw [Array.empty_append] at q2;obtain rfl:=beside_same q5 hB1.msk hB1.iR;refine ⟨al.st.trans rfl,x,seen P frm.fn new,?_,fun e he=>?_,rfl,?_⟩
  ·rw [al.step];simp only [G,stepG,hL.mode,unwind,hL.defers,hf];rw [q2];simp [GStep.after,doReturn,hkd,seen,hfn,hin]
  ·have h5:=oX (ea q6 e he) hB1.hid;have h6:(u'.at d).heap.size = w'.heap.size:=hB1.msk.size.symm;rw [← h6];exact h5
  ·have hu:aJ dI (mask W) u':=(hk.trans (.ed hg0)).trans (.ed hg);refine ⟨hB'.msk.os.trans hu.os,hB'.msk.tape.trans hu.tape,hB'.msk.output.trans hu.output,?_,fun k hkl=>?_⟩
   ·have:=hu.size;rw [qE] at this;rw [show (w'.at d).heap.size = w'.heap.size from rfl,hB'.msk.size];exact this
   ·show w'.heap[k]? = W.heap[k]?;have hW:=Array.getElem?_eq_getElem hkl
    by_cases hw:fF W.heap[k] = true
    ·exact hkept k _ hW hw
    ·have hw':fF W.heap[k] = false:=by simpa using hw
     have h6:=hu.block k (by rw [qE]; exact hkl) id;rw [mask_cells hW hw'] at h6;rw [hB'.msk.vis k fun o ho=>?_,h6,hW];rw [h6] at ho;obtain rfl:=Option.some.inj ho;simp only [fF,Bool.or_eq_false_iff] at hw';exact hw'.1
 obtain ⟨N2,last,o,w2,t2,k1,k2,k3,k4⟩:=beside_ends (D:=fun _ _ _=>False) (fun _ _ _ h=>h.elim) hB'.at0 hB'.leave hB'.past (n:=0) end1 (sl:=sl');refine ⟨N + N2,last,o,w2,t2,?_,?_,k3,k4⟩
 ·rw [Nat.add_assoc,solo_eq_crowd];exact ic h1 k1
 ·rw [← runNT_fst P _ _ #[],solo_eq_crowd,runNT_add,h1];simp only;rw [runNT_fst,k2]
end Go.Gx
namespace Go.Gx
open Go
section
variable {P:Program} {K:Ctx} {F:Fr} {L:List Res} {Q:Exit→Act→World→Prop} {N:Act→World→Prop} {ops:Array Oper} {op:Op} {ty:TypeId} {pos:String} {af:Array Edge}
theorem opgT {dst:Option Tmp} {j tg:Nat} {want c2:Bool} (hj:(ops[j]?).bind (·.dst) = some tg) (hg:look F tg = some (true,.bool c2)) (hw:c2 = want)
 (h:Sat K (bH P K ops Q ⟨dst,op,ty,pos,af,none⟩ N) F L):Sat K (bH P K ops Q ⟨dst,op,ty,pos,af,some (j,want)⟩ N) F L:=fun a w G=>by
 have hw':=j9 (o:=⟨dst,op,ty,pos,af,some (j,want)⟩) rfl hj hg G.fo;have h1:=h a w G;unfold bH at h1 ⊢;rw [hw',hw];simp only [Region.wanted,if_true,beq_self_eq_true,Bool.and_self] at h1 ⊢;exact h1
end
end Go.Gx
namespace Go.Gx
open Go Go.RowKit
section
variable {α β:Type} {P:Program} {t e:TypeId}
theorem pT {k:IntKind} {E:Enc α} {f:α→Int} (ht:P.underlying t = some (.int k)) (hE:∀ a,E.cells a = [.int k (f a)]) (hg:E.agg = false) (w:World) (r:Reach) (b:Nat) (v:Value) (a:α) (h:Value.okWide P w r b t v) (hc:v.cells.toList = E.cells a):v = E.val a:=by
 obtain ⟨n,rfl⟩:=Go.WideShapes.okWide_int ht h;rw [hE] at hc;unfold Enc.val;rw [hg,hE];simp [Value.cells] at hc;simp [hc]
theorem sK {k:IntKind} {n:Int} (h:(Lit.int k n).wf = true):k.has n:=by
 simpa [Lit.wf,IntKind.has] using h
theorem l7 (ht:P.underlying t = some (.int .u8)) (hc:P.cellsOf t = 1):Opn P t u8E (fun _ _ _ _=>True) where
 cells:=hc
 op enc w sp held fuel cs x h:=by
  obtain ⟨n,rfl,_,hw⟩:=DataW.trod_int ht h;have h1:(0:Int) ≤ n ∧ n ≤ 255:=sK hw;refine ⟨UInt8.ofNat n.toNat,?_,trivial⟩;show [Value.int .u8 n] = [U8 (UInt8.ofNat n.toNat)];have e:((UInt8.ofNat n.toNat).toNat:Int) = n:=by rw [UInt8.toNat_ofNat']; omega
  unfold U8;rw [e]
 val:=pT ht (f:=fun a=>(a.toNat:Int)) (fun _=>rfl) rfl
theorem r9 (ht:P.underlying t = some (.int .u16)) (hc:P.cellsOf t = 1):Opn P t od (fun _ _ _ _=>True) where
 cells:=hc
 op enc w sp held fuel cs x h:=by
  obtain ⟨n,rfl,_,hw⟩:=DataW.trod_int ht h;have h1:(0:Int) ≤ n ∧ n ≤ 65535:=sK hw;refine ⟨UInt16.ofNat n.toNat,?_,trivial⟩;show [Value.int .u16 n] = [U16 (UInt16.ofNat n.toNat)];have e:((UInt16.ofNat n.toNat).toNat:Int) = n:=by rw [UInt16.toNat_ofNat']; omega
  unfold U16;rw [e]
 val:=pT ht (f:=fun a=>(a.toNat:Int)) (fun _=>rfl) rfl
theorem opn_u32 (ht:P.underlying t = some (.int .u32)) (hc:P.cellsOf t = 1):Opn P t u32E (fun _ _ _ _=>True) where
 cells:=hc
 op enc w sp held fuel cs x h:=by
  obtain ⟨n,rfl,_,hw⟩:=DataW.trod_int ht h;have h1:(0:Int) ≤ n ∧ n ≤ 4294967295:=sK hw;refine ⟨UInt32.ofNat n.toNat,?_,trivial⟩;show [Value.int .u32 n] = [U32 (UInt32.ofNat n.toNat)];have e:((UInt32.ofNat n.toNat).toNat:Int) = n:=by rw [UInt32.toNat_ofNat']; omega
  unfold U32;rw [e]
 val:=pT ht (f:=fun a=>(a.toNat:Int)) (fun _=>rfl) rfl
theorem pH (ht:P.underlying t = some (.int .u64)) (hc:P.cellsOf t = 1):Opn P t fR (fun _ _ _ _=>True) where
 cells:=hc
 op enc w sp held fuel cs x h:=by
  obtain ⟨n,rfl,_,hw⟩:=DataW.trod_int ht h;have h1:(0:Int) ≤ n ∧ n ≤ 18446744073709551615:=sK hw;refine ⟨UInt64.ofNat n.toNat,?_,trivial⟩;show [Value.int .u64 n] = [U64 (UInt64.ofNat n.toNat)];have e:((UInt64.ofNat n.toNat).toNat:Int) = n:=by rw [UInt64.toNat_ofNat']; omega
  unfold U64;rw [e]
 val:=pT ht (f:=fun a=>(a.toNat:Int)) (fun _=>rfl) rfl
theorem m9 (ht:P.underlying t = some (.int .i64)) (hc:P.cellsOf t = 1):Opn P t iE (fun _ n _ _=>Fit n) where
 cells:=hc
 op enc w sp held fuel cs x h:=by
  obtain ⟨n,rfl,_,hw⟩:=DataW.trod_int ht h;exact ⟨n,rfl,sK hw⟩
 val:=pT ht (f:=fun a=>a) (fun _=>rfl) rfl
theorem opn_b (ht:P.underlying t = some .bool) (hc:P.cellsOf t = 1):Opn P t bE (fun _ _ _ _=>True) where
 cells:=hc
 op enc w sp held fuel cs x h:=by
  obtain ⟨b,rfl,_⟩:=DataW.trod_bool ht h;exact ⟨b,rfl,trivial⟩
 val w r b v a h hc:=by
  obtain ⟨n,rfl⟩:=Go.WideShapes.okWide_bool ht h;have e:bE.cells a = [.bool a]:=rfl;rw [e] at hc;simp [Value.cells] at hc;rw [hc]
  rfl
theorem opn_s (ht:P.underlying t = some .string) (hc:P.cellsOf t = 1):Opn P t sE (fun _ s _ d=>s.size ≤ maxLen ∧ d = .lit (.string s.data.toList)) where
 cells:=hc
 op enc w sp held fuel cs x h:=by
  obtain ⟨s,rfl,hx,hs⟩:=DataW.trod_string ht h;exact ⟨s,rfl,hs,by rw [hx]⟩
 val w r b v a h hc:=by
  obtain ⟨n,rfl⟩:=Go.WideShapes.okWide_string ht h;have e:sE.cells a = [.string a]:=rfl;rw [e] at hc;simp [Value.cells] at hc;rw [hc]
  rfl
def SlD {H:Type} (d:DataW H) (ds:List (DataW H)):Prop:=ds = [] ∨ ∃ sp,d = .slice ds sp
def SlQ (E:Enc α) (Q:Kn α):Kn OV:=fun w o H d=>∃ xs ds,aO E w o.v xs ∧ SlD d ds ∧ xs.length = ds.length ∧ ∀ i (h1:i < xs.length) (h2:i < ds.length),Q w xs[i] H ds[i]
theorem lr {E:Enc α} {Q:Kn α} (O:Opn P e E Q) (ht:P.underlying t = some (.slice e)) (hc:P.cellsOf t = 1) (hsz:Nat.blt 0 E.size = true):Opn P t (ovE ai) (SlQ E Q) where
 cells:=hc
 op {H} enc w sp held fuel cs x h:=by
  rcases DataW.trod_slice ht h with ⟨rfl,_⟩ | ⟨a,len,cap,elems,rest,n,rfl,rfl,hx,_,h1,h2,h3,h4,_⟩
  ·exact ⟨ai,rfl,[],[],aO.nil E w,.inl rfl,rfl,fun i h _=>absurd h (Nat.not_lt_zero _)⟩
  ·refine ⟨⟨.slice (some a) len cap,rfl⟩,rfl,?_⟩;have hpos:0 < E.size:=by simpa [Nat.blt_eq] using hsz
   have each:∀ i,(hi:i < len)→∃ y,w.cells? 0 (a.add (i * E.size)) E.size = some (E.cells y) ∧ Q w y H (elems[i]'(by omega)).1:=fun i hi=>by
    have h5:=h4 i hi;rw [List.getElem?_eq_getElem (by omega),O.cells] at h5;cases hcs:w.cells? 0 (a.add (i * E.size)) E.size with
    | none=>rw [hcs] at h5; simp at h5
    | some cs =>
      rw [hcs] at h5;obtain ⟨y,rfl,hy⟩:=O.op enc w sp held n cs _ h5;exact ⟨y,rfl,hy⟩
   have all:∀ n,n ≤ len→∃ xs:List α,xs.length = n ∧ (∀ i (hi:i < n),w.cells? 0 (a.add (i * E.size)) E.size = some (E.cells (xs.getD i E.zero))) ∧ ∀ i (h1:i < xs.length) (h2:i < elems.length),Q w xs[i] H (elems[i]).1:=by
    intro n
    induction n with
    | zero=>exact fun _=>⟨[],rfl,fun i hi=>absurd hi (Nat.not_lt_zero _),fun i h _=>absurd h (Nat.not_lt_zero _)⟩
    | succ n ih =>
      intro hn;obtain ⟨xs,e1,e2,e3⟩:=ih (by omega);obtain ⟨y,e4,e5⟩:=each n (by omega);refine ⟨xs ++ [y],by simp [e1],fun i hi=>?_,fun i hi1 hi2=>?_⟩
      ·by_cases hin:i < n
       ·rw [e2 i hin];simp [List.getD,List.getElem?_append,e1,hin]
       ·have:i = n:=by omega
        subst this;rw [e4];simp [List.getD,List.getElem?_append,e1]
      ·by_cases hin:i < n
       ·have e6:=e3 i (by omega) hi2;rw [List.getElem_append_left (by omega)];exact e6
       ·have:i = n:=by simp at hi1; omega
        subst this;rw [List.getElem_append_right (by omega)]
        simpa [e1] using e5
   obtain ⟨xs,e1,e2,e3⟩:=all len (Nat.le_refl _);refine ⟨xs,elems.map (·.1),⟨some a,cap,by rw [e1],by omega,h2,fun h=>(by cases h),fun p hp=>?_⟩,.inr ⟨_,by rw [hx]⟩,by simp; omega,fun i h1 h2=>by rw [List.getElem_map]; exact e3 i h1 (by simpa using h2)⟩;cases hp;have cell:∀ i,i < xs.length→∀ j,j < E.size→w.cell? (a.add (i * E.size + j)) = (E.cells (xs.getD i E.zero))[j]?:=fun i hi j hj=>by
    have h5:=(World.cells?_some (e2 i (by omega))).2.2 j hj
    rwa [Go.Addr.add_add] at h5
   have spot:xs ≠ []→a.spot = none:=fun hne=>by
    have h6:=cell 0 (List.length_pos_iff.2 hne) 0 hpos;rw [List.getElem?_eq_getElem (by rw [E.len]; exact hpos)] at h6
    simpa [Addr.add] using World.cell?_spot h6
   refine ⟨spot,fun j u hu=>?_⟩;have hj:j < xs.length * E.size:=by
    have:=(List.getElem?_eq_some_iff.1 hu).1
    rwa [E.bZ] at this
   have hi:j / E.size < xs.length:=Nat.div_lt_of_lt_mul (by rwa [Nat.mul_comm] at hj);have hm:j % E.size < E.size:=Nat.mod_lt _ hpos;have ej:j = j / E.size * E.size + j % E.size:=by rw [Nat.mul_comm]; exact (Nat.div_add_mod j E.size).symm
   have h7:=cell _ hi _ hm;rw [← E.wJ xs (j / E.size) (j % E.size) E.zero hi hm,← ej] at h7;rw [hu] at h7;have hs:=spot (fun e=>by rw [e] at hi; exact absurd hi (Nat.not_lt_zero _));obtain ⟨ab,ao,asp⟩:=a;simp only at hs;subst hs
   rwa [fO] at h7
 val w r b v a h hc:=by
  obtain ⟨p,l,c,rfl⟩:=Go.WideShapes.okWide_slice ht h;have e:(ovE ai).cells a = [a.v]:=rfl;rw [e] at hc;simp [Value.cells] at hc;show _ = a.v;exact hc
theorem agg_val {E:Enc α} (hg:E.agg = true) {v:Value} {a:α} (h:∃ cs,v = .agg cs) (hc:v.cells.toList = E.cells a):v = E.val a:=by
 obtain ⟨cs,rfl⟩:=h;unfold Enc.val;rw [hg,← hc];simp [Value.cells]
theorem opn_arr {E:Enc α} {Q:Kn α} {n:Nat} (O:Opn P e E Q) (ht:P.underlying t = some (.array n e)) (hc:P.cellsOf t = n * E.size):Opn P t (fN n E) (fun w v H d=>∃ ds,d = .agg ds ∧ ∀ i (hi:i < n) (h2:i < ds.length),Q w v[i] H ds[i]) where
 cells:=hc
 op {H} enc w sp held fuel cs x h:=by
  obtain ⟨xs,m,rfl,hx,h1,h2,h3⟩:=DataW.trod_array ht h;have each:∀ i,(hi:i < n)→∃ y,(cs.drop (i * E.size)).take E.size = E.cells y ∧ Q w y H (xs[i]'(by omega)).1:=fun i hi=>by
   have h5:=h3 i hi;rw [List.getElem?_eq_getElem (by omega),O.cells] at h5;exact O.op enc w sp held m _ _ h5
  have all:∀ k,k ≤ n→∃ ys:List α,ys.length = k ∧ cs.take (k * E.size) = E.row ys ∧ ∀ i (h1:i < ys.length) (h2:i < xs.length),Q w ys[i] H (xs[i]).1:=by
   intro k
   induction k with
   | zero=>exact fun _=>⟨[],rfl,by simp [Enc.row],fun i h _=>absurd h (Nat.not_lt_zero _)⟩
   | succ k ih =>
     intro hk;obtain ⟨ys,e1,e2,e3⟩:=ih (by omega);obtain ⟨y,e4,e5⟩:=each k (by omega);refine ⟨ys ++ [y],by simp [e1],?_,fun i hi1 hi2=>?_⟩
     ·rw [E.ja,← e2,Nat.add_mul,Nat.one_mul,List.take_add,e4];simp [Enc.row]
     ·by_cases hin:i < k
      ·have e6:=e3 i (by omega) hi2;rw [List.getElem_append_left (by omega)];exact e6
      ·have:i = k:=by simp at hi1; omega
       subst this;rw [List.getElem_append_right (by omega)]
       simpa [e1] using e5
  obtain ⟨ys,e1,e2,e3⟩:=all n (Nat.le_refl _);refine ⟨⟨ys.toArray,by simpa using e1⟩,?_,xs.map (·.1),by rw [hx],fun i hi h2=>by rw [List.getElem_map]; simpa using e3 i (by omega) (by simpa using h2)⟩;rw [List.take_of_length_le (by rw [h1,hc]; exact Nat.le_refl _)] at e2;rw [e2]
  rfl
 val w r b v a h hcl:=agg_val rfl (by
  simp only [Value.okWide,ht] at h;obtain ⟨cs,h1,_⟩:=h;exact ⟨cs,h1⟩) hcl
theorem dx {fs:Array Field} {E:Enc β} {to:β→α} {of:α→β} {Q:World→β→(H:Type)→List (DataW H)→Prop} (ht:P.underlying t = some (.struct fs)) (hc:P.cellsOf t = E.size) (R:dh P fs.toList 0 E Q) (hto:∀ b,of (to b) = b) :
 Opn P t (gI E to of) (fun w a H d=>∃ ds,d = .agg ds ∧ Q w (of a) H ds) where
 cells:=hc
 op enc w sp held fuel cs x h:=by
  obtain ⟨xs,n,rfl,hx,h1,h2,h3⟩:=DataW.trod_struct ht h;obtain ⟨b,h4,h5⟩:=R.op enc w sp held n cs xs (by simpa using h2) (fun i hi1 hi2=>by
   have h6:=h3 i fs.toList[i] (by simp);exact h6.trans (List.getElem?_eq_getElem _))
  refine ⟨to b,?_,_,by rw [hx],by rw [hto]; exact h5⟩;rw [List.drop_zero,List.take_of_length_le (by rw [h1,hc]; exact Nat.le_refl _)] at h4;show cs = E.cells (of (to b));rw [hto,h4]
 val w r b v a h hcl:=agg_val rfl (by
  obtain ⟨cs,h1,_⟩:=Go.WideShapes.okWide_struct ht h;exact ⟨cs,h1⟩) hcl
theorem one_le {H:Type} (d:DataW H):1 ≤ Go.Proofs.YtljifjflnakmoaaGreat.Rows.uptoBulk d:=by
 cases d with
 | lit l=>cases l <;> simp [Go.Proofs.YtljifjflnakmoaaGreat.Rows.uptoBulk]
 | nil=>simp [Go.Proofs.YtljifjflnakmoaaGreat.Rows.uptoBulk]
 | ptr d=>simp [Go.Proofs.YtljifjflnakmoaaGreat.Rows.uptoBulk]
 | slice elems spare=>simp [Go.Proofs.YtljifjflnakmoaaGreat.Rows.uptoBulk]
 | agg parts=>simp [Go.Proofs.YtljifjflnakmoaaGreat.Rows.uptoBulk]
 | iface t d=>simp [Go.Proofs.YtljifjflnakmoaaGreat.Rows.uptoBulk]
 | map entries=>simp [Go.Proofs.YtljifjflnakmoaaGreat.Rows.uptoBulk]
 | held h=>simp [Go.Proofs.YtljifjflnakmoaaGreat.Rows.uptoBulk]
theorem SlD.bulk {H:Type} {d:DataW H} {ds:List (DataW H)} (h:SlD d ds):Go.Proofs.YtljifjflnakmoaaGreat.Rows.uptoBulkAll ds + 1 ≤ Go.Proofs.YtljifjflnakmoaaGreat.Rows.uptoBulk d:=by
 rcases h with rfl | ⟨sp,rfl⟩
 ·have:=one_le d;simp only [Go.Proofs.YtljifjflnakmoaaGreat.Rows.uptoBulkAll];omega
 ·simp only [Go.Proofs.YtljifjflnakmoaaGreat.Rows.uptoBulk];omega
end
theorem vh {H:Type} {P:Program} {ts:List TypeId} {ds parts:List (DataW H)} {fs:Array Field} (hz:(DataW.weightsEach P ts ds).all (· ≤ reachBytes) = true) {j:Nat} {t:TypeId} (ht:ts[j]? = some t) (hd:ds[j]? = some (.agg parts)) (hu:P.underlying t = some (.struct fs)) :
 (DataW.weightsEach P (fs.toList.map (·.type)) parts).all (· ≤ reachBytes) = true :=
 List.all_eq_true.2 fun x hx=>List.all_eq_true.1 hz x (DataW.weights_mem_each ht hd x (by simpa [DataW.weights,hu] using hx))
end Go.Gx
