/- Part. -/
import Derived.Conc.WgGenN3
import Derived.Test.YtjanhajdmhalaaaGreatM6
set_option linter.unusedVariables false
set_option linter.unusedSimpArgs false
set_option linter.unusedSectionVars false
namespace Go.Gx
open Go Go.Conc Go.ConcN Go.RowKit Go.Conc.Lib Go.ConcR.Gen Go.ConcN.Gen
open Go.ConcR (KK wgBlock WgAt stA smA rd wr mk Payload DC0)
section
variable [Payload] {L:WgLink} {P:Program} {Wg C n:Nat} {pm:Nat→Prop} {fr:Nat} {T:Goroutine→World→Prop} {B:World→Prop}
  {b₀:Frame} {a₀:Act} {ops₀:Array Oper} {i₀:Nat} {rest₀:List Nat} {k₀:List Item} {cs:List Frame}
set_option maxRecDepth 100000 in
set_option maxHeartbeats 8000000 in
theorem addX (H:WgLib P L) (hB:∀ v v1,B v→bT v v1→B v1) (hBs:∀ v l,B v→B (dr v Wg (gh l))) {r:Nat}
    (hT:TE P L.tWg Wg n pm fr T B [0,r,2] (G (b₀.at (a₀.put ((ops₀[i₀]?).bind (·.dst)) (.tuple #[])) (.inRegion ops₀ rest₀ :: k₀)) cs)) :
    TE P L.tWg Wg n pm fr T B [0,r,5] (G ((base L.add).at ⟨#[.pointer (some ⟨Wg,0,none⟩),.int .i64 1,undef,undef,undef,undef,undef,undef,undef,undef,undef,undef,undef,undef,undef,undef,undef,undef,undef,undef,undef,undef,undef,undef,undef,undef,undef,undef,undef,undef,undef,undef,undef,undef,undef,undef,undef,undef,undef,undef,undef,undef,undef,undef,undef,undef,undef,undef,undef,undef,undef,undef,undef,undef,undef,undef,undef,undef,undef,undef,undef,undef,undef,undef,undef,undef,undef,undef,undef,undef,undef,undef,undef,undef,undef,undef,undef,undef,undef,undef,undef,undef,undef,undef,undef,undef,undef,undef,undef,undef,undef,undef,undef,undef,undef,undef,undef,undef,undef,undef,undef,undef,undef,undef,undef,undef,undef,undef,undef,undef,undef,undef,undef,undef,undef,undef,undef],[]⟩ [.code (body_add L)]) (b₀.at a₀ (.inRegion ops₀ (i₀ :: rest₀) :: k₀) :: cs)):=by
  lib_facts
  simp only [body_add,addFn,Option.getD_some]
  refine TE.lib hB hBs 12 fun w hF=>?_
  u_c stepG_seq lv hF
  u_cond true lv hF
  u_c stepG_seq lv hF
  u_c stepG_seq lv hF
  u_reg lv hF
  u_op lv hF
  u_op lv hF
  u_c stepG_region_end lv hF
  u_cond false lv hF
  u_c stepG_skip lv hF
  u_c stepG_seq lv hF
  u_reg lv hF
  refine Goes.stop (fun w₁ h₁=>.inl ⟨rfl,fun _=>⟨[0,r,4],_,_,_,stepG_mark0 .disable (by simp) rfl rfl (by k_ne) rfl H.f_disable (x_disable_n L) (x_disable_b L) (x_disable_x L) (x_disable_f L),.dis,TE.lib hB hBs 40 fun w hF=>?_⟩⟩)
  walk_nrm
  u_c stepG_region_end lv hF
  u_reg lv hF
  u_defer lv hF
  u_c stepG_region_end lv hF
  u_c stepG_seq lv hF
  u_reg lv hF
  u_op lv hF
  u_c stepG_region_end lv hF
  u_c stepG_seq lv hF
  u_c stepG_seq lv hF
  u_reg lv hF
  u_bub lv hF
  u_c stepG_region_end lv hF
  u_cond false lv hF
  u_c stepG_skip lv hF
  u_c stepG_seq lv hF
  u_reg lv hF
  u_op lv hF
  u_op lv hF
  u_op lv hF
  u_op lv hF
  u_op lv hF
  u_op lv hF
  u_call H.f_uAdd (nm_uAdd L) uAddFn lv hF
  u_c stepG_seq lv hF
  u_reg lv hF
  u_op lv hF
  u_c stepG_region_end lv hF
  u_c stepG_seq lv hF
  u_reg lv hF
  u_op lv hF
  u_op lv hF
  u_op lv hF
  u_op lv hF
  refine Goes.stop (fun w₂ h₂=>.inl ⟨rfl,fun hf=>?_⟩)
  obtain ⟨v,hv,hw⟩:=hf.add r rfl
  clear hf h₂ hF
  rcases Nat.eq_zero_or_pos v with rfl | hvp
  · have hr:=Rel.add (n:=n) (r:=r) hw
    replace hw:WgAt L.tWg Wg w₂ 0 0:=by simpa using hw
    have z:(((0:Nat):Int) + 1) * KK = KK:=by simp
    rw [z] at hr
    have e0:IntKind.u64.wrap (0 + 4294967296) = KK:=by decide
    refine ⟨[0,r,3],_,_,_,(stepG_add_atomic rfl rfl (by k_ne) rfl H.f_addU64 (x_addU64_n L) (x_addU64_b L) (x_addU64_x L) .u64 (x_addU64_f L) rfl rfl hw.cellSt (hw.thaw 0)).trans (by rw [e0]; rfl),hr,TE.lib hB hBs 110 fun w hF=>?_⟩
    clear hw hr
    simp only [KK]
    walk_nrm
    u_op lv hF
    u_c stepG_region_end lv hF
    u_c stepG_ret' lv hF
    u_leave1 H.f_uAdd lv hF
    u_op lv hF
    u_c stepG_region_end lv hF
    u_c stepG_seq lv hF
    u_c stepG_seq lv hF
    u_reg lv hF
    u_op lv hF
    u_op lv hF
    u_op lv hF
    u_op lv hF
    u_skip lv hF
    u_skip lv hF
    u_op lv hF
    u_c stepG_region_end lv hF
    u_cond false lv hF
    u_c stepG_skip lv hF
    u_c stepG_seq lv hF
    u_reg lv hF
    u_op lv hF
    u_op lv hF
    u_op lv hF
    u_op lv hF
    u_c stepG_region_end lv hF
    u_c stepG_seq lv hF
    u_reg lv hF
    u_op lv hF
    u_op lv hF
    u_op lv hF
    u_op lv hF
    u_c stepG_region_end lv hF
    u_c stepG_seq lv hF
    u_c stepG_seq lv hF
    u_reg lv hF
    u_op lv hF
    u_op lv hF
    u_op lv hF
    u_op lv hF
    u_op lv hF
    u_op lv hF
    u_op lv hF
    u_op lv hF
    u_op lv hF
    u_op lv hF
    u_c stepG_region_end lv hF
    u_cond true lv hF
    u_reg lv hF
    u_op lv hF
    u_op lv hF
    u_op lv hF
    u_conv H.underlying_tPU32 H.room_tU32 (WgLive.cell1 hF).choose_spec lv hF
    refine Goes.stop (fun w₁ h₁=>.inl ⟨rfl,fun _=>⟨_,_,_,_,stepG_markAt .read (by simp) rfl rfl (by k_ne) rfl H.f_raceRead (x_raceRead_n L) (x_raceRead_b L) (x_raceRead_x L) (x_raceRead_f L) (ad:=⟨Wg,1,none⟩) (by simp [Act.eval]),.said (.inl rfl),TE.lib hB hBs 110 fun w hF=>?_⟩⟩)
    walk_nrm
    u_c stepG_region_end lv hF
    u_c stepG_seq lv hF
    u_c stepG_seq lv hF
    u_reg lv hF
    u_op lv hF
    u_op lv hF
    u_c stepG_region_end lv hF
    u_cond false lv hF
    u_c stepG_skip lv hF
    u_c stepG_seq lv hF
    u_c stepG_seq lv hF
    u_reg lv hF
    u_op lv hF
    u_op lv hF
    u_op lv hF
    u_skip lv hF
    u_skip lv hF
    u_op lv hF
    u_op lv hF
    u_skip lv hF
    u_skip lv hF
    u_skip lv hF
    u_skip lv hF
    u_op lv hF
    u_c stepG_region_end lv hF
    u_cond false lv hF
    u_c stepG_skip lv hF
    u_c stepG_seq lv hF
    u_c stepG_seq lv hF
    u_reg lv hF
    u_op lv hF
    u_op lv hF
    u_op lv hF
    u_skip lv hF
    u_skip lv hF
    u_op lv hF
    u_c stepG_region_end lv hF
    u_cond true lv hF
    u_c stepG_ret' lv hF
    refine Goes.stop (fun w₃ h₃=>.inl ⟨rfl,fun _=>⟨[0,r,2],_,_,_,stepG_unwind_entry (v:=.tuple #[]) (evs:=#[mk .enable]) rfl H.f_enable (x_enable_n L) (x_enable_b L) (x_enable_x L) (x_enable_f L) (by simp [Extern.Race.none_]) (by simp [mk]) (by simp [mk]),.en,TE.lib hB hBs 4 fun w hF=>?_⟩⟩)
    u_leave0 H.f_add lv hF
    exact Goes.stop (fun _ _=>.inr hT)
  · obtain ⟨V,hV⟩:∃ V:Int,V = (v:Int) + 1:=⟨_,rfl⟩
    obtain ⟨S,hS⟩:∃ S:Int,S = V * KK:=⟨_,rfl⟩
    have hr:=Rel.add (n:=n) (r:=r) hw
    have eS:IntKind.u64.wrap ((v:Int) * KK + 4294967296) = S:=by rw [IntKind.wrap_u64,hS,hV]; simp only [KK]; omega
    rw [← hV,← hS] at hr
    have a1:S / 4294967296 = V:=by rw [hS]; simp only [KK]; omega
    have b1:bits .and .u64 S 2147483648 = 0:=by rw [hS,hV]; have:=st_flag (v + 1) 0 (by omega) (by omega); simpa [KK] using this
    have b2:bits .and .u64 S 2147483647 = 0:=by rw [hS,hV]; have:=st_waiters (v + 1) 0 (by omega) (by omega); simpa [KK] using this
    have c1:IntKind.i32.wrap V = V:=by rw [IntKind.wrap_i32]; omega
    have hV1:1 < V:=by omega
    have hV2:V < 2147483648:=by omega
    have q1:(V == 1) = false:=by simp; omega
    have q2:decide (V = 1) = false:=decide_eq_false (by omega)
    have q3:decide (V < 0) = false:=decide_eq_false (by omega)
    have q4:decide (0 < V) = true:=decide_eq_true (by omega)
    have q5:(V == 0) = false:=by simp; omega
    have q6:decide (V = 0) = false:=decide_eq_false (by omega)
    refine ⟨[0,r,3],_,_,_,(stepG_add_atomic rfl rfl (by k_ne) rfl H.f_addU64 (x_addU64_n L) (x_addU64_b L) (x_addU64_x L) .u64 (x_addU64_f L) rfl rfl hw.cellSt (hw.thaw 0)).trans (by rw [eS]; rfl),hr,TE.lib hB hBs 110 fun w hF=>?_⟩
    clear hw hS hV eS hr
    walk_nrm
    u_op lv hF
    u_c stepG_region_end lv hF
    u_c stepG_ret' lv hF
    u_leave1 H.f_uAdd lv hF
    u_op lv hF
    u_c stepG_region_end lv hF
    u_c stepG_seq lv hF
    u_c stepG_seq lv hF
    u_reg lv hF
    u_op lv hF
    u_op lv hF
    u_op lv hF
    u_op lv hF
    u_skip lv hF
    u_skip lv hF
    u_op lv hF
    u_c stepG_region_end lv hF
    u_cnd false lv hF
    u_c stepG_skip lv hF
    u_c stepG_seq lv hF
    u_reg lv hF
    u_op lv hF
    u_op lv hF
    u_op lv hF
    u_op lv hF
    u_c stepG_region_end lv hF
    u_c stepG_seq lv hF
    u_reg lv hF
    u_op lv hF
    u_op lv hF
    u_op lv hF
    u_op lv hF
    u_c stepG_region_end lv hF
    u_c stepG_seq lv hF
    u_c stepG_seq lv hF
    u_reg lv hF
    u_op lv hF
    u_op lv hF
    u_op lv hF
    u_op lv hF
    u_op lv hF
    u_op lv hF
    u_op lv hF
    u_op lv hF
    u_op lv hF
    u_op lv hF
    u_c stepG_region_end lv hF
    u_cnd false lv hF
    u_c stepG_skip lv hF
    u_c stepG_seq lv hF
    u_c stepG_seq lv hF
    u_reg lv hF
    u_op lv hF
    u_op lv hF
    u_c stepG_region_end lv hF
    u_cnd false lv hF
    u_c stepG_skip lv hF
    u_c stepG_seq lv hF
    u_c stepG_seq lv hF
    u_reg lv hF
    u_op lv hF
    u_op lv hF
    u_op lv hF
    u_skip lv hF
    u_skip lv hF
    u_op lv hF
    u_op lv hF
    u_skip lv hF
    u_skip lv hF
    u_skip lv hF
    u_skip lv hF
    u_op lv hF
    u_c stepG_region_end lv hF
    u_cnd false lv hF
    u_c stepG_skip lv hF
    u_c stepG_seq lv hF
    u_c stepG_seq lv hF
    u_reg lv hF
    u_op lv hF
    u_op lv hF
    u_op lv hF
    u_skip lv hF
    u_skip lv hF
    u_op lv hF
    u_c stepG_region_end lv hF
    u_cnd true lv hF
    u_c stepG_ret' lv hF
    refine Goes.stop (fun w₃ h₃=>.inl ⟨rfl,fun _=>⟨[0,r,2],_,_,_,stepG_unwind_entry (v:=.tuple #[]) (evs:=#[mk .enable]) rfl H.f_enable (x_enable_n L) (x_enable_b L) (x_enable_x L) (x_enable_f L) (by simp [Extern.Race.none_]) (by simp [mk]) (by simp [mk]),.en,TE.lib hB hBs 4 fun w hF=>?_⟩⟩)
    u_leave0 H.f_add lv hF
    exact Goes.stop (fun _ _=>.inr hT)
end
end Go.Gx
namespace Go.Gx
open Go Go.Conc Go.ConcN Go.RowKit Go.Conc.Lib Go.ConcR.Gen Go.ConcN.Gen
open Go.ConcR (KK wgBlock WgAt stA smA rd wr mk Payload DC0)
section
variable [Payload] {L:WgLink} {P:Program} {Wg C n:Nat} {pm:Nat→Prop} {fr:Nat} {T:Goroutine→World→Prop} {B:World→Prop}
  {b₀:Frame} {a₀:Act} {ops₀:Array Oper} {i₀:Nat} {rest₀:List Nat} {k₀:List Item} {cs:List Frame}
def FinX (P:Program) (pm:Nat→Prop) (fr:Nat) (T:Goroutine→World→Prop) (B B2:World→Prop) (g:Goroutine) (v:World):Prop:=B v ∧ ∀ v2,B2 v2→cQ X0 P true pm fr T g v2
theorem rt {w w1:World} (h:True) (r:RT w w1):True:=h
set_option maxRecDepth 100000 in
set_option maxHeartbeats 8000000 in
theorem waitRoundX (H:WgLib P L) (hB:∀ v v1,B v→bT v v1→B v1) (hBs:∀ v l,B v→B (dr v Wg (gh l))) {fv tv:Value} {pm2:Nat→Prop} {fr2:Nat} {T2:Goroutine→World→Prop} {B2:World→Prop} (hB2:∀ v v1,B2 v→bT v v1→B2 v1)
    (hT:∀ v,B2 v→cQ X0 P true pm2 fr2 T2 (G (b₀.at (a₀.put ((ops₀[i₀]?).bind (·.dst)) (.tuple #[])) (.inRegion ops₀ rest₀ :: k₀)) cs) v) :
    ∀ (b:Nat) (T:Array Value),T.size = 84→T[0]? = some (.pointer (some ⟨Wg,0,none⟩))→TE P L.tWg Wg n (pmM fr) fr (TM P L.tWg Wg C n fv tv (FinX P pm2 fr2 T2 B B2) 1 fr) B [2,b] (G ((base L.wait).at ⟨T,[]⟩ [.code (L7 L),.inLoop (L7 L),.inBlock 0]) (b₀.at a₀ (.inRegion ops₀ (i₀ :: rest₀) :: k₀) :: cs)):=by
  lib_facts
  intro b
  induction b using Nat.strongRecOn with
  | _ b ih =>
  intro T hT84 t0
  obtain ⟨v0,v1,v2,v3,v4,v5,v6,v7,v8,v9,v10,v11,v12,v13,v14,v15,v16,v17,v18,v19,v20,v21,v22,v23,v24,v25,v26,v27,v28,v29,v30,v31,v32,v33,v34,v35,v36,v37,v38,v39,v40,v41,v42,v43,v44,v45,v46,v47,v48,v49,v50,v51,v52,v53,v54,v55,v56,v57,v58,v59,v60,v61,v62,v63,v64,v65,v66,v67,v68,v69,v70,v71,v72,v73,v74,v75,v76,v77,v78,v79,v80,v81,v82,v83,rfl⟩:=array84 T hT84
  simp only [List.getElem?_toArray,List.getElem?_cons_zero,Option.some.injEq] at t0
  subst t0
  simp only [L7,body_wait,waitFn,Option.getD_some] at ih ⊢
  refine TE.lib hB hBs 30 fun w hF=>?_
  u_c stepG_block lv hF
  u_c stepG_seq lv hF
  u_reg lv hF
  u_op lv hF
  u_op lv hF
  u_op lv hF
  u_call H.f_uLoad (nm_uLoad L) uLoadFn lv hF
  u_c stepG_seq lv hF
  u_reg lv hF
  u_op lv hF
  u_c stepG_region_end lv hF
  u_c stepG_seq lv hF
  u_reg lv hF
  u_op lv hF
  u_op lv hF
  u_op lv hF
  refine Goes.stop (fun w₁ h₁=>.inl ⟨rfl,fun hf=>?_⟩)
  obtain ⟨v,hvb,hv,hw⟩:=hf.anch b rfl
  clear hf h₁ hF
  rcases Nat.eq_zero_or_pos v with rfl | hvp
  · replace hw:WgAt L.tWg Wg w₁ 0 0:=by simpa using hw
    refine ⟨[6],_,_,_,stepG_load_atomic (v:=0) rfl rfl (by k_ne) rfl H.f_loadU64 (x_loadU64_n L) (x_loadU64_b L) (x_loadU64_x L) .u64 (x_loadU64_f L) rfl hw.cellSt,.ld0 hw,TE.lib hB hBs 50 fun w hF=>?_⟩
    clear hw
    walk_nrm
    u_op lv hF
    u_c stepG_region_end lv hF
    u_c stepG_ret' lv hF
    u_leave1 H.f_uLoad lv hF
    u_op lv hF
    u_c stepG_region_end lv hF
    u_c stepG_seq lv hF
    u_reg lv hF
    u_op lv hF
    u_op lv hF
    u_op lv hF
    u_op lv hF
    u_c stepG_region_end lv hF
    u_c stepG_seq lv hF
    u_reg lv hF
    u_op lv hF
    u_op lv hF
    u_op lv hF
    u_op lv hF
    u_c stepG_region_end lv hF
    u_c stepG_seq lv hF
    u_c stepG_seq lv hF
    u_reg lv hF
    u_op lv hF
    u_op lv hF
    u_c stepG_region_end lv hF
    u_cond true lv hF
    u_c stepG_seq lv hF
    u_cond true lv hF
    u_c stepG_seq lv hF
    u_reg lv hF
    refine Goes.stop (fun w₅ h₅=>.inl ⟨rfl,fun _=>⟨[7],_,_,_,stepG_mark0 .enable (by simp) rfl rfl (by k_ne) rfl H.f_enable (x_enable_n L) (x_enable_b L) (x_enable_x L) (x_enable_f L),.enk,TE.lib hB hBs 12 fun w hF=>?_⟩⟩)
    walk_nrm
    u_c stepG_region_end lv hF
    u_reg lv hF
    u_op lv hF
    u_conv H.underlying_tWgP H.room_tWg (WgLive.cell0 hF).choose_spec lv hF
    refine Goes.stop (fun w₆ h₆=>.inr ⟨rfl,fun v hv hb=>.stop (.inl ⟨rfl,hv,_,rfl,fun w=>stepG_markAt .acquire (by simp) rfl rfl (by k_ne) rfl H.f_acquire (x_acquire_n L) (x_acquire_b L) (x_acquire_x L) (x_acquire_f L) (by simp [Act.eval,stA]),hb,fun v2 hb2=>?_⟩)⟩)
    walk_nrm
    refine lib0 hB2 60 _ _ hb2 fun w=>?_
    have hF:True:=trivial
    u_c stepG_region_end rt hF
    u_c stepG_seq rt hF
    u_c stepG_seq rt hF
    u_reg rt hF
    u_op rt hF
    u_op rt hF
    u_op rt hF
    u_op rt hF
    u_op rt hF
    u_op rt hF
    u_op rt hF
    u_op rt hF
    u_skip rt hF
    u_skip rt hF
    u_op rt hF
    u_c stepG_region_end rt hF
    u_cond false rt hF
    u_c stepG_skip rt hF
    u_c stepG_ret' rt hF
    u_leave0 H.f_wait rt hF
    exact Goes.stop (fun _ _=>⟨rfl,hT⟩)
  · obtain ⟨S,hS⟩:∃ S:Int,(v:Int) * KK = S:=⟨_,rfl⟩
    have a1:S / 4294967296 = (v:Int):=by rw [← hS]; simp only [KK]; omega
    have b1:bits .and .u64 S 2147483648 = 0:=by rw [← hS]; have:=st_flag v 0 (by omega) (by omega); simpa [KK] using this
    have b2:bits .and .u64 S 2147483647 = 0:=by rw [← hS]; have:=st_waiters v 0 (by omega) (by omega); simpa [KK] using this
    have c1:IntKind.i32.wrap (v:Int) = (v:Int):=by rw [IntKind.wrap_i32]; omega
    have w1:IntKind.u64.wrap (S + 1) = S + 1:=by rw [IntKind.wrap_u64,← hS]; simp only [KK]; omega
    have q3:decide ((v:Int) < 0) = false:=decide_eq_false (by omega)
    have q4:decide (0 < (v:Int)) = true:=decide_eq_true (by omega)
    have q5:((v:Int) == 0) = false:=by simp; omega
    have q6:decide ((v:Int) = 0) = false:=decide_eq_false (by omega)
    have hr:=Rel.ld (n:=n) hw (by omega) hvb
    rw [hS] at hw
    refine ⟨[3,v],_,_,_,stepG_load_atomic (v:=S) rfl rfl (by k_ne) rfl H.f_loadU64 (x_loadU64_n L) (x_loadU64_b L) (x_loadU64_x L) .u64 (x_loadU64_f L) rfl hw.cellSt,hr,TE.lib hB hBs 60 fun w hF=>?_⟩
    clear hw hr
    walk_nrm
    u_op lv hF
    u_c stepG_region_end lv hF
    u_c stepG_ret' lv hF
    u_leave1 H.f_uLoad lv hF
    u_op lv hF
    u_c stepG_region_end lv hF
    u_c stepG_seq lv hF
    u_reg lv hF
    u_op lv hF
    u_op lv hF
    u_op lv hF
    u_op lv hF
    u_c stepG_region_end lv hF
    u_c stepG_seq lv hF
    u_reg lv hF
    u_op lv hF
    u_op lv hF
    u_op lv hF
    u_op lv hF
    u_c stepG_region_end lv hF
    u_c stepG_seq lv hF
    u_c stepG_seq lv hF
    u_reg lv hF
    u_op lv hF
    u_op lv hF
    u_c stepG_region_end lv hF
    u_cnd false lv hF
    u_c stepG_skip lv hF
    u_c stepG_seq lv hF
    u_reg lv hF
    u_op lv hF
    u_op lv hF
    u_op lv hF
    u_op lv hF
    u_op lv hF
    u_op lv hF
    u_call H.f_uCas (nm_uCas L) uCasFn lv hF
    u_c stepG_seq lv hF
    u_reg lv hF
    u_op lv hF
    u_c stepG_region_end lv hF
    u_c stepG_seq lv hF
    u_reg lv hF
    u_op lv hF
    u_op lv hF
    u_op lv hF
    u_op lv hF
    u_op lv hF
    refine Goes.stop (fun w₂ h₂=>.inl ⟨rfl,fun hf=>?_⟩)
    obtain ⟨v',hv'b,hv',hw⟩:=hf.seen v rfl
    clear hf h₂ hF
    by_cases e:v' = v
    · subst e
      have hr:=Rel.hit (n:=n) hw
      rw [hS] at hw hr
      refine ⟨[4],_,_,_,(stepG_cas_hit (v:=S) (n:=S + 1) rfl rfl (by k_ne) rfl H.f_casU64 (x_casU64_n L) (x_casU64_b L) (x_casU64_x L) .u64 (x_casU64_f L) rfl rfl rfl hw.cellSt (hw.thaw 0)).trans (by rfl),hr,TE.lib hB hBs 70 fun w hF=>?_⟩
      clear hw hr
      walk_nrm
      u_op lv hF
      u_c stepG_region_end lv hF
      u_c stepG_ret' lv hF
      u_leave1 H.f_uCas lv hF
      u_c stepG_region_end lv hF
      u_cond true lv hF
      u_c stepG_seq lv hF
      u_c stepG_seq lv hF
      u_reg lv hF
      u_op lv hF
      u_op lv hF
      u_op lv hF
      u_op lv hF
      u_c stepG_region_end lv hF
      u_cond true lv hF
      u_reg lv hF
      u_op lv hF
      u_op lv hF
      u_op lv hF
      u_conv H.underlying_tPU32 H.room_tU32 (WgLive.cell1 hF).choose_spec lv hF
      refine Goes.stop (fun w₁ h₁=>.inl ⟨rfl,fun _=>⟨_,_,_,_,stepG_markAt .write (by simp) rfl rfl (by k_ne) rfl H.f_raceWrite (x_raceWrite_n L) (x_raceWrite_b L) (x_raceWrite_x L) (x_raceWrite_f L) (ad:=⟨_,1,none⟩) (by simp [Act.eval] <;> rfl),.said (.inr rfl),TE.lib hB hBs 60 fun w hF=>?_⟩⟩)
      walk_nrm
      u_c stepG_region_end lv hF
      u_c stepG_seq lv hF
      u_reg lv hF
      u_op lv hF
      u_c stepG_region_end lv hF
      u_c stepG_seq lv hF
      u_c stepG_seq lv hF
      u_reg lv hF
      u_op lv hF
      u_op lv hF
      u_op lv hF
      u_op lv hF
      u_skip lv hF
      u_op lv hF
      u_c stepG_region_end lv hF
      u_cond false lv hF
      u_c stepG_skip lv hF
      u_c stepG_seq lv hF
      u_reg lv hF
      u_op lv hF
      u_op lv hF
      u_op lv hF
      u_op lv hF
      refine Goes.stop (fun w₃ h₃=>.inr ⟨rfl,fun v hv hb=>.stop (.inr ⟨hv,⟨rfl,rfl,fun w ⟨st,hw⟩=>stepG_semacquire_wait rfl rfl rfl H.f_semacquire (x_semacquire_n L) (x_semacquire_b L) (x_semacquire_x L) (x_semacquire_f L) (by simp [Act.eval,smA]) hw.cellSm⟩,_,rfl,fun w hf=>(stepG_semacquire (n:=1) rfl rfl (by k_ne) rfl H.f_semacquire (x_semacquire_n L) (x_semacquire_b L) (x_semacquire_x L) (x_semacquire_f L) (by simp [Act.eval,smA]) hf.cellSm (by k_ne) (hf.thaw 1)).trans (by rfl),fun u hu hnu=>?_⟩)⟩)
      refine libX hB hBs 30 _ _ (cr (Nat.lt_of_lt_of_le (aS hv) hu.size)) (hBs _ _ (hB _ _ hb hu)) fun w hF=>?_
      clear hv hb hu hnu
      walk_nrm
      u_c stepG_region_end lv hF
      u_c stepG_seq lv hF
      u_reg lv hF
      u_op lv hF
      u_op lv hF
      u_op lv hF
      u_call H.f_uLoad (nm_uLoad L) uLoadFn lv hF
      u_c stepG_seq lv hF
      u_reg lv hF
      u_op lv hF
      u_c stepG_region_end lv hF
      u_c stepG_seq lv hF
      u_reg lv hF
      u_op lv hF
      u_op lv hF
      u_op lv hF
      refine Goes.stop (fun w₄ h₄=>.inl ⟨rfl,fun hf=>?_⟩)
      have hw:=hf.woke rfl
      clear hf h₄ hF
      refine ⟨[6],_,_,_,stepG_load_atomic (v:=0) rfl rfl (by k_ne) rfl H.f_loadU64 (x_loadU64_n L) (x_loadU64_b L) (x_loadU64_x L) .u64 (x_loadU64_f L) rfl hw.cellSt,.ld4,TE.lib hB hBs 30 fun w hF=>?_⟩
      clear hw
      walk_nrm
      u_op lv hF
      u_c stepG_region_end lv hF
      u_c stepG_ret' lv hF
      u_leave1 H.f_uLoad lv hF
      u_op lv hF
      u_op lv hF
      u_c stepG_region_end lv hF
      u_c stepG_seq lv hF
      u_cond true lv hF
      u_c stepG_seq lv hF
      u_reg lv hF
      refine Goes.stop (fun w₅ h₅=>.inl ⟨rfl,fun _=>⟨[7],_,_,_,stepG_mark0 .enable (by simp) rfl rfl (by k_ne) rfl H.f_enable (x_enable_n L) (x_enable_b L) (x_enable_x L) (x_enable_f L),.enk,TE.lib hB hBs 12 fun w hF=>?_⟩⟩)
      walk_nrm
      u_c stepG_region_end lv hF
      u_reg lv hF
      u_op lv hF
      u_conv H.underlying_tWgP H.room_tWg (WgLive.cell0 hF).choose_spec lv hF
      refine Goes.stop (fun w₆ h₆=>.inr ⟨rfl,fun v hv hb=>.stop (⟨rfl,hv,_,rfl,fun w=>stepG_markAt .acquire (by simp) rfl rfl (by k_ne) rfl H.f_acquire (x_acquire_n L) (x_acquire_b L) (x_acquire_x L) (x_acquire_f L) (by simp [Act.eval,stA]),hb,fun v2 hb2=>?_⟩)⟩)
      walk_nrm
      refine lib0 hB2 60 _ _ hb2 fun w=>?_
      have hF:True:=trivial
      u_c stepG_region_end rt hF
      u_c stepG_seq rt hF
      u_c stepG_seq rt hF
      u_reg rt hF
      u_op rt hF
      u_c stepG_region_end rt hF
      u_cond false rt hF
      u_c stepG_skip rt hF
      u_c stepG_ret' rt hF
      u_leave0 H.f_wait rt hF
      exact Goes.stop (fun _ _=>⟨rfl,hT⟩)
    · refine ⟨[2,v - 1],_,_,_,stepG_cas_miss (v:=(v':Int) * KK) (old:=S) (n:=S + 1) rfl rfl (by k_ne) rfl H.f_casU64 (x_casU64_n L) (x_casU64_b L) (x_casU64_x L) .u64 (x_casU64_f L) rfl rfl rfl hw.cellSt (hw.thaw 0) (by rw [← hS]; simp only [KK]; omega),.miss hw (by omega),TE.lib hB hBs 20 fun w hF=>?_⟩
      clear hw
      walk_nrm
      u_op lv hF
      u_c stepG_region_end lv hF
      u_c stepG_ret' lv hF
      u_leave1 H.f_uCas lv hF
      u_c stepG_region_end lv hF
      u_cond false lv hF
      u_c stepG_skip lv hF
      u_c stepG_inBlock lv hF
      u_c stepG_inLoop lv hF
      exact Goes.stop (fun w₃ h₃=>.inr (ih (v - 1) (by omega) _ (by simp) (by simp)))
set_option maxRecDepth 100000 in
theorem waitX (H:WgLib P L) (hB:∀ v v1,B v→bT v v1→B v1) (hBs:∀ v l,B v→B (dr v Wg (gh l))) {fv tv:Value} {pm2:Nat→Prop} {fr2:Nat} {T2:Goroutine→World→Prop} {B2:World→Prop} (hB2:∀ v v1,B2 v→bT v v1→B2 v1)
    (hT:∀ v,B2 v→cQ X0 P true pm2 fr2 T2 (G (b₀.at (a₀.put ((ops₀[i₀]?).bind (·.dst)) (.tuple #[])) (.inRegion ops₀ rest₀ :: k₀)) cs) v) :
    TE P L.tWg Wg n (pmM fr) fr (TM P L.tWg Wg C n fv tv (FinX P pm2 fr2 T2 B B2) 1 fr) B [1] (G ((base L.wait).at ⟨#[.pointer (some ⟨Wg,0,none⟩),undef,undef,undef,undef,undef,undef,undef,undef,undef,undef,undef,undef,undef,undef,undef,undef,undef,undef,undef,undef,undef,undef,undef,undef,undef,undef,undef,undef,undef,undef,undef,undef,undef,undef,undef,undef,undef,undef,undef,undef,undef,undef,undef,undef,undef,undef,undef,undef,undef,undef,undef,undef,undef,undef,undef,undef,undef,undef,undef,undef,undef,undef,undef,undef,undef,undef,undef,undef,undef,undef,undef,undef,undef,undef,undef,undef,undef,undef,undef,undef,undef,undef,undef],[]⟩ [.code (body_wait L)]) (b₀.at a₀ (.inRegion ops₀ (i₀ :: rest₀) :: k₀) :: cs)):=by
  lib_facts
  have hR:=waitRoundX (fv:=fv) (tv:=tv) (C:=C) (n:=n) (fr:=fr) H hB hBs hB2 hT n
  simp only [L7,body_wait,waitFn,Option.getD_some] at hR ⊢
  refine TE.lib hB hBs 3 fun w hF=>?_
  u_c stepG_seq lv hF
  u_cond true lv hF
  u_reg lv hF
  refine Goes.stop (fun w₁ h₁=>.inl ⟨rfl,fun _=>⟨[2,n],_,_,_,stepG_mark0 .disable (by simp) rfl rfl (by k_ne) rfl H.f_disable (x_disable_n L) (x_disable_b L) (x_disable_x L) (x_disable_f L),.wdis,TE.lib hB hBs 3 fun w hF=>?_⟩⟩)
  walk_nrm
  u_c stepG_region_end lv hF
  u_c stepG_block lv hF
  u_c stepG_loop lv hF
  exact Goes.stop (fun w₂ h₂=>.inr (hR _ (by simp) (by simp)))
end
end Go.Gx
