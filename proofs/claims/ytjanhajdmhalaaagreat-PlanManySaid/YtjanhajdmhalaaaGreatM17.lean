/- Part. -/
import Derived.WalkKit
import Derived.ProofKit
import Derived.OpenShut
import Derived.ShutString
import Derived.ChangeOld
import Derived.Below
import Derived.SizedLaws
import Derived.JoinedCond
import Derived.Test.YtjanhajdmhalaaaGreatRows
import Derived.Test.YtjanhajdmhalaaaGreatHxG
import Derived.Test.YtjanhajdmhalaaaGreatHxF
set_option linter.unusedVariables false
set_option linter.unusedSimpArgs false
set_option linter.unusedSectionVars false
namespace Go.Gx
open Go Go.RowKit
section
variable {α β:Type} {P:Program} {t e:TypeId}
theorem mN {k:IntKind} {E:Enc α} {f:α→Int} (ht:P.underlying t = some (.int k)) (hE:∀ a,E.cells a = [.int k (f a)]) (hg:E.agg = false) (w:World) (r:Reach) (b:Nat) (v:Value) (a:α) (h:Value.okWide P w r b t v) (hc:v.cells.toList = E.cells a):v = E.val a:=by
  obtain ⟨n,rfl⟩:=Go.WideShapes.okWide_int ht h
  rw [hE] at hc
  unfold Enc.val
  rw [hg,hE]
  simp [Value.cells] at hc
  simp [hc]
theorem oA {k:IntKind} {n:Int} (h:(Lit.int k n).wf = true):k.has n:=by
  simpa [Lit.wf,IntKind.has] using h
theorem kz (ht:P.underlying t = some (.int .u8)) (hc:P.cellsOf t = 1):Opn P t u8E (fun _ _ _ _=>True) where
  cells:=hc
  op enc w sp held fuel cs x h:=by
    obtain ⟨n,rfl,_,hw⟩:=DataW.trod_int ht h
    have h1:(0:Int) ≤ n ∧ n ≤ 255:=oA hw
    refine ⟨UInt8.ofNat n.toNat,?_,trivial⟩
    show [Value.int .u8 n] = [U8 (UInt8.ofNat n.toNat)]
    have e:((UInt8.ofNat n.toNat).toNat:Int) = n:=by rw [UInt8.toNat_ofNat']; omega
    unfold U8
    rw [e]
  val:=mN ht (f:=fun a=>(a.toNat:Int)) (fun _=>rfl) rfl
theorem oc (ht:P.underlying t = some (.int .u16)) (hc:P.cellsOf t = 1):Opn P t cd (fun _ _ _ _=>True) where
  cells:=hc
  op enc w sp held fuel cs x h:=by
    obtain ⟨n,rfl,_,hw⟩:=DataW.trod_int ht h
    have h1:(0:Int) ≤ n ∧ n ≤ 65535:=oA hw
    refine ⟨UInt16.ofNat n.toNat,?_,trivial⟩
    show [Value.int .u16 n] = [U16 (UInt16.ofNat n.toNat)]
    have e:((UInt16.ofNat n.toNat).toNat:Int) = n:=by rw [UInt16.toNat_ofNat']; omega
    unfold U16
    rw [e]
  val:=mN ht (f:=fun a=>(a.toNat:Int)) (fun _=>rfl) rfl
theorem opn_u32 (ht:P.underlying t = some (.int .u32)) (hc:P.cellsOf t = 1):Opn P t bG (fun _ _ _ _=>True) where
  cells:=hc
  op enc w sp held fuel cs x h:=by
    obtain ⟨n,rfl,_,hw⟩:=DataW.trod_int ht h
    have h1:(0:Int) ≤ n ∧ n ≤ 4294967295:=oA hw
    refine ⟨UInt32.ofNat n.toNat,?_,trivial⟩
    show [Value.int .u32 n] = [U32 (UInt32.ofNat n.toNat)]
    have e:((UInt32.ofNat n.toNat).toNat:Int) = n:=by rw [UInt32.toNat_ofNat']; omega
    unfold U32
    rw [e]
  val:=mN ht (f:=fun a=>(a.toNat:Int)) (fun _=>rfl) rfl
theorem opn_u64 (ht:P.underlying t = some (.int .u64)) (hc:P.cellsOf t = 1):Opn P t jc (fun _ _ _ _=>True) where
  cells:=hc
  op enc w sp held fuel cs x h:=by
    obtain ⟨n,rfl,_,hw⟩:=DataW.trod_int ht h
    have h1:(0:Int) ≤ n ∧ n ≤ 18446744073709551615:=oA hw
    refine ⟨UInt64.ofNat n.toNat,?_,trivial⟩
    show [Value.int .u64 n] = [U64 (UInt64.ofNat n.toNat)]
    have e:((UInt64.ofNat n.toNat).toNat:Int) = n:=by rw [UInt64.toNat_ofNat']; omega
    unfold U64
    rw [e]
  val:=mN ht (f:=fun a=>(a.toNat:Int)) (fun _=>rfl) rfl
theorem lD (ht:P.underlying t = some (.int .i64)) (hc:P.cellsOf t = 1):Opn P t iE (fun _ n _ _=>Fit n) where
  cells:=hc
  op enc w sp held fuel cs x h:=by
    obtain ⟨n,rfl,_,hw⟩:=DataW.trod_int ht h
    exact ⟨n,rfl,oA hw⟩
  val:=mN ht (f:=fun a=>a) (fun _=>rfl) rfl
theorem opn_b (ht:P.underlying t = some .bool) (hc:P.cellsOf t = 1):Opn P t bE (fun _ _ _ _=>True) where
  cells:=hc
  op enc w sp held fuel cs x h:=by
    obtain ⟨b,rfl,_⟩:=DataW.trod_bool ht h
    exact ⟨b,rfl,trivial⟩
  val w r b v a h hc:=by
    obtain ⟨n,rfl⟩:=Go.WideShapes.okWide_bool ht h
    have e:bE.cells a = [.bool a]:=rfl
    rw [e] at hc
    simp [Value.cells] at hc
    rw [hc]
    rfl
theorem opn_s (ht:P.underlying t = some .string) (hc:P.cellsOf t = 1):Opn P t sE (fun _ s _ d=>s.size ≤ maxLen ∧ d = .lit (.string s.data.toList)) where
  cells:=hc
  op enc w sp held fuel cs x h:=by
    obtain ⟨s,rfl,hx,hs⟩:=DataW.trod_string ht h
    exact ⟨s,rfl,hs,by rw [hx]⟩
  val w r b v a h hc:=by
    obtain ⟨n,rfl⟩:=Go.WideShapes.okWide_string ht h
    have e:sE.cells a = [.string a]:=rfl
    rw [e] at hc
    simp [Value.cells] at hc
    rw [hc]
    rfl
def SlD {H:Type} (d:DataW H) (ds:List (DataW H)):Prop:=ds = [] ∨ ∃ sp,d = .slice ds sp
def SlQ (E:Enc α) (Q:Kn α):Kn OV:=fun w o H d=>∃ xs ds,bH E w o.v xs ∧ SlD d ds ∧ xs.length = ds.length ∧ ∀ i (h1:i < xs.length) (h2:i < ds.length),Q w xs[i] H ds[i]
theorem l7 {E:Enc α} {Q:Kn α} (O:Opn P e E Q) (ht:P.underlying t = some (.slice e)) (hc:P.cellsOf t = 1) (hsz:Nat.blt 0 E.size = true):Opn P t (ovE aw) (SlQ E Q) where
  cells:=hc
  op {H} enc w sp held fuel cs x h:=by
    rcases DataW.trod_slice ht h with ⟨rfl,_⟩ | ⟨a,len,cap,elems,rest,n,rfl,rfl,hx,_,h1,h2,h3,h4,_⟩
    · exact ⟨aw,rfl,[],[],bH.nil E w,.inl rfl,rfl,fun i h _=>absurd h (Nat.not_lt_zero _)⟩
    · refine ⟨⟨.slice (some a) len cap,rfl⟩,rfl,?_⟩
      have hpos:0 < E.size:=by simpa [Nat.blt_eq] using hsz
      have each:∀ i,(hi:i < len)→∃ y,w.cells? 0 (a.add (i * E.size)) E.size = some (E.cells y) ∧ Q w y H (elems[i]'(by omega)).1:=fun i hi=>by
        have h5:=h4 i hi
        rw [List.getElem?_eq_getElem (by omega),O.cells] at h5
        cases hcs:w.cells? 0 (a.add (i * E.size)) E.size with
        | none=>rw [hcs] at h5; simp at h5
        | some cs =>
          rw [hcs] at h5
          obtain ⟨y,rfl,hy⟩:=O.op enc w sp held n cs _ h5
          exact ⟨y,rfl,hy⟩
      have all:∀ n,n ≤ len→∃ xs:List α,xs.length = n ∧ (∀ i (hi:i < n),w.cells? 0 (a.add (i * E.size)) E.size = some (E.cells (xs.getD i E.zero))) ∧ ∀ i (h1:i < xs.length) (h2:i < elems.length),Q w xs[i] H (elems[i]).1:=by
        intro n
        induction n with
        | zero=>exact fun _=>⟨[],rfl,fun i hi=>absurd hi (Nat.not_lt_zero _),fun i h _=>absurd h (Nat.not_lt_zero _)⟩
        | succ n ih =>
          intro hn
          obtain ⟨xs,e1,e2,e3⟩:=ih (by omega)
          obtain ⟨y,e4,e5⟩:=each n (by omega)
          refine ⟨xs ++ [y],by simp [e1],fun i hi=>?_,fun i hi1 hi2=>?_⟩
          · by_cases hin:i < n
            · rw [e2 i hin]
              simp [List.getD,List.getElem?_append,e1,hin]
            · have:i = n:=by omega
              subst this
              rw [e4]
              simp [List.getD,List.getElem?_append,e1]
          · by_cases hin:i < n
            · have e6:=e3 i (by omega) hi2
              rw [List.getElem_append_left (by omega)]
              exact e6
            · have:i = n:=by simp at hi1; omega
              subst this
              rw [List.getElem_append_right (by omega)]
              simpa [e1] using e5
      obtain ⟨xs,e1,e2,e3⟩:=all len (Nat.le_refl _)
      refine ⟨xs,elems.map (·.1),⟨some a,cap,by rw [e1],by omega,h2,fun h=>(by cases h),fun p hp=>?_⟩,.inr ⟨_,by rw [hx]⟩,by simp; omega,fun i h1 h2=>by rw [List.getElem_map]; exact e3 i h1 (by simpa using h2)⟩
      cases hp
      have cell:∀ i,i < xs.length→∀ j,j < E.size→w.cell? (a.add (i * E.size + j)) = (E.cells (xs.getD i E.zero))[j]?:=fun i hi j hj=>by
        have h5:=(World.cells?_some (e2 i (by omega))).2.2 j hj
        rwa [Go.Addr.add_add] at h5
      have spot:xs ≠ []→a.spot = none:=fun hne=>by
        have h6:=cell 0 (List.length_pos_iff.2 hne) 0 hpos
        rw [List.getElem?_eq_getElem (by rw [E.len]; exact hpos)] at h6
        simpa [Addr.add] using World.cell?_spot h6
      refine ⟨spot,fun j u hu=>?_⟩
      have hj:j < xs.length * E.size:=by
        have:=(List.getElem?_eq_some_iff.1 hu).1
        rwa [E.du] at this
      have hi:j / E.size < xs.length:=Nat.div_lt_of_lt_mul (by rwa [Nat.mul_comm] at hj)
      have hm:j % E.size < E.size:=Nat.mod_lt _ hpos
      have ej:j = j / E.size * E.size + j % E.size:=by rw [Nat.mul_comm]; exact (Nat.div_add_mod j E.size).symm
      have h7:=cell _ hi _ hm
      rw [← E.row_get xs (j / E.size) (j % E.size) E.zero hi hm,← ej] at h7
      rw [hu] at h7
      have hs:=spot (fun e=>by rw [e] at hi; exact absurd hi (Nat.not_lt_zero _))
      obtain ⟨ab,ao,asp⟩:=a
      simp only at hs
      subst hs
      rwa [iq] at h7
  val w r b v a h hc:=by
    obtain ⟨p,l,c,rfl⟩:=Go.WideShapes.okWide_slice ht h
    have e:(ovE aw).cells a = [a.v]:=rfl
    rw [e] at hc
    simp [Value.cells] at hc
    show _ = a.v
    exact hc
theorem agg_val {E:Enc α} (hg:E.agg = true) {v:Value} {a:α} (h:∃ cs,v = .agg cs) (hc:v.cells.toList = E.cells a):v = E.val a:=by
  obtain ⟨cs,rfl⟩:=h
  unfold Enc.val
  rw [hg,← hc]
  simp [Value.cells]
theorem opn_arr {E:Enc α} {Q:Kn α} {n:Nat} (O:Opn P e E Q) (ht:P.underlying t = some (.array n e)) (hc:P.cellsOf t = n * E.size):Opn P t (dS n E) (fun w v H d=>∃ ds,d = .agg ds ∧ ∀ i (hi:i < n) (h2:i < ds.length),Q w v[i] H ds[i]) where
  cells:=hc
  op {H} enc w sp held fuel cs x h:=by
    obtain ⟨xs,m,rfl,hx,h1,h2,h3⟩:=DataW.trod_array ht h
    have each:∀ i,(hi:i < n)→∃ y,(cs.drop (i * E.size)).take E.size = E.cells y ∧ Q w y H (xs[i]'(by omega)).1:=fun i hi=>by
      have h5:=h3 i hi
      rw [List.getElem?_eq_getElem (by omega),O.cells] at h5
      exact O.op enc w sp held m _ _ h5
    have all:∀ k,k ≤ n→∃ ys:List α,ys.length = k ∧ cs.take (k * E.size) = E.row ys ∧ ∀ i (h1:i < ys.length) (h2:i < xs.length),Q w ys[i] H (xs[i]).1:=by
      intro k
      induction k with
      | zero=>exact fun _=>⟨[],rfl,by simp [Enc.row],fun i h _=>absurd h (Nat.not_lt_zero _)⟩
      | succ k ih =>
        intro hk
        obtain ⟨ys,e1,e2,e3⟩:=ih (by omega)
        obtain ⟨y,e4,e5⟩:=each k (by omega)
        refine ⟨ys ++ [y],by simp [e1],?_,fun i hi1 hi2=>?_⟩
        · rw [E.jS,← e2,Nat.add_mul,Nat.one_mul,List.take_add,e4]
          simp [Enc.row]
        · by_cases hin:i < k
          · have e6:=e3 i (by omega) hi2
            rw [List.getElem_append_left (by omega)]
            exact e6
          · have:i = k:=by simp at hi1; omega
            subst this
            rw [List.getElem_append_right (by omega)]
            simpa [e1] using e5
    obtain ⟨ys,e1,e2,e3⟩:=all n (Nat.le_refl _)
    refine ⟨⟨ys.toArray,by simpa using e1⟩,?_,xs.map (·.1),by rw [hx],fun i hi h2=>by rw [List.getElem_map]; simpa using e3 i (by omega) (by simpa using h2)⟩
    rw [List.take_of_length_le (by rw [h1,hc]; exact Nat.le_refl _)] at e2
    rw [e2]
    rfl
  val w r b v a h hcl:=agg_val rfl (by
    simp only [Value.okWide,ht] at h
    obtain ⟨cs,h1,_⟩:=h
    exact ⟨cs,h1⟩) hcl
theorem dX {fs:Array Field} {E:Enc β} {to:β→α} {of:α→β} {Q:World→β→(H:Type)→List (DataW H)→Prop} (ht:P.underlying t = some (.struct fs)) (hc:P.cellsOf t = E.size) (R:dP P fs.toList 0 E Q) (hto:∀ b,of (to b) = b) :
    Opn P t (iH E to of) (fun w a H d=>∃ ds,d = .agg ds ∧ Q w (of a) H ds) where
  cells:=hc
  op enc w sp held fuel cs x h:=by
    obtain ⟨xs,n,rfl,hx,h1,h2,h3⟩:=DataW.trod_struct ht h
    obtain ⟨b,h4,h5⟩:=R.op enc w sp held n cs xs (by simpa using h2) (fun i hi1 hi2=>by
      have h6:=h3 i fs.toList[i] (by simp)
      exact h6.trans (List.getElem?_eq_getElem _))
    refine ⟨to b,?_,_,by rw [hx],by rw [hto]; exact h5⟩
    rw [List.drop_zero,List.take_of_length_le (by rw [h1,hc]; exact Nat.le_refl _)] at h4
    show cs = E.cells (of (to b))
    rw [hto,h4]
  val w r b v a h hcl:=agg_val rfl (by
    obtain ⟨cs,h1,_⟩:=Go.WideShapes.okWide_struct ht h
    exact ⟨cs,h1⟩) hcl
theorem SlQ.sized {E:Enc α} {Q:Kn α} {w:World} {o:OV} {H:Type} {d:DataW H} {ts:List TypeId} {ds:List (DataW H)} (h:SlQ E Q w o H d) (hz:(DataW.weightsEach P ts ds).all (· ≤ reachBytes) = true) {j n:Nat} (ht:ts[j]? = some t) (hd:ds[j]? = some d) (hu:P.underlying t = some (.slice e)) (hb:P.bytesOf e = n) :
    ∃ xs,bH E w o.v xs ∧ xs.length * n ≤ 140737488351232:=by
  obtain ⟨xs,es,h1,h2,h3,_⟩:=h
  refine ⟨xs,h1,?_⟩
  rcases h2 with rfl | ⟨sp,rfl⟩
  · simp [h3]
  · have h5:=sized_slice hz ht hd hu
    rw [hb] at h5
    have h6:reachBytes = 140737488351232:=by decide
    rw [h6] at h5
    have h7:xs.length * n ≤ (es.length + sp.length) * n:=Nat.mul_le_mul_right _ (by omega)
    omega
end
theorem nc {H:Type} {P:Program} {ts:List TypeId} {ds parts:List (DataW H)} {fs:Array Field} (hz:(DataW.weightsEach P ts ds).all (· ≤ reachBytes) = true) {j:Nat} {t:TypeId} (ht:ts[j]? = some t) (hd:ds[j]? = some (.agg parts)) (hu:P.underlying t = some (.struct fs)) :
    (DataW.weightsEach P (fs.toList.map (·.type)) parts).all (· ≤ reachBytes) = true :=
  List.all_eq_true.2 fun x hx=>List.all_eq_true.1 hz x (DataW.weights_mem_each ht hd x (by simpa [DataW.weights,hu] using hx))
end Go.Gx
