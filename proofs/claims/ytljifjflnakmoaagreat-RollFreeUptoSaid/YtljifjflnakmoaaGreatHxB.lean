/- Part B: numbers and bools as values; what plain operations on them yield. Printed by mkB.py. -/
import Derived.Test.YtljifjflnakmoaaGreatHxA
set_option linter.unusedVariables false
set_option linter.unusedSimpArgs false
namespace Go.Gx
open Go
def U8 (x:UInt8):Value:=.int .u8 (x.toNat:Int)
def U16 (x:UInt16):Value:=.int .u16 (x.toNat:Int)
def U32 (x:UInt32):Value:=.int .u32 (x.toNat:Int)
def U64 (x:UInt64):Value:=.int .u64 (x.toNat:Int)
def I (n:Int):Value:=.int .i64 n
def B (b:Bool):Value:=.bool b
abbrev Fit (n:Int):Prop:=-9223372036854775808 ≤ n ∧ n ≤ 9223372036854775807
theorem wrap_i64 {n:Int} (h:Fit n):IntKind.i64.wrap n = n:=by
 unfold IntKind.wrap IntKind.bits IntKind.signed;simp only [Bool.true_and,ge_iff_le,decide_eq_true_eq];split <;> omega
theorem wrap_u8 (n:Int):IntKind.u8.wrap n = n % 256:=by
 unfold IntKind.wrap IntKind.bits IntKind.signed; simp
section
variable {P:Program} {K:Ctx} {F:Fr} {L:List Res} {g:Bool} {x y:Operand} {ty t t':TypeId} {v u:Value}
theorem Ev.move (hx:Opd F g x v):Ev P K F L g (.move x) ty v:=.of rfl (fun _ _ _ _ _ _ _ _ _=>.pure _) fun hg a G w _ dst pos af gd=>by
 simp only [execOp,hx.eval hg G,Sem.run_pure]
theorem Ev.assign (hx:Opd F g x v):Ev P K F L g (.assign x) ty v:=.of rfl (fun _ _ _ _ _ _ _ _ _=>.pure _) fun hg a G w _ dst pos af gd=>by
 simp only [execOp,hx.eval hg G,Sem.run_pure]
theorem Ev.bin {op:BinOp} (hx:Opd F g x u) (hy:Opd F g y v) {r:Value} (hgd:∀ w,(eqGuard op t x y u v).run P w = .ok () w) (h:∀ w,(binOp op t u v).run P w = .ok r w)
 (tg:Tm P (pmK K) K.E.fr (eqGuard op t x y u v)) (tb:Tm P (pmK K) K.E.fr (binOp op t u v)) :
 Ev P K F L g (.binOp op t x y t') ty r:=.of rfl (fun hg a G w hw _ _ _ _=>by
 show Tm P _ _ ((do eqGuard op t x y (a.eval x) (a.eval y); binOp op t (a.eval x) (a.eval y):Sem Value) >>= fun r=>pure (Next.value r));rw [hx.eval hg G,hy.eval hg G];exact .bind (.bind tg fun _=>tb) fun _=>.pure _) fun hg a G w _ dst pos af gd=>by
 simp only [execOp,hx.eval hg G,hy.eval hg G,Sem.run_bind,hgd,Result.andThen_ok,h,Sem.run_pure]
theorem ef {op:BinOp} {k k':IntKind} {m n:Int} (w:World):(eqGuard op t x y (.int k m) (.int k' n)).run P w = .ok () w:=by
 unfold eqGuard;cases op <;> rfl
theorem p9 {op:BinOp} {m n:Bool} (w:World):(eqGuard op t x y (.bool m) (.bool n)).run P w = .ok () w:=by
 unfold eqGuard;cases op <;> rfl
theorem nF {op:BinOp} {m n:ByteArray} (w:World):(eqGuard op t x y (.string m) (.string n)).run P w = .ok () w:=by
 unfold eqGuard;cases op <;> rfl
section
variable {pm:Nat→Prop} {fr:Nat}
theorem df {op:BinOp} {k k':IntKind} {m n:Int}:Tm P pm fr (eqGuard op t x y (.int k m) (.int k' n)):=by
 unfold eqGuard;cases op <;> exact .pure _
theorem ml {op:BinOp} {m n:Bool}:Tm P pm fr (eqGuard op t x y (.bool m) (.bool n)):=by
 unfold eqGuard;cases op <;> exact .pure _
theorem lf {op:BinOp} {m n:ByteArray}:Tm P pm fr (eqGuard op t x y (.string m) (.string n)):=by
 unfold eqGuard;cases op <;> exact .pure _
theorem eW {op:BinOp} {k k':IntKind} {m n:Int}:Tm P pm fr (binOp op t (.int k m) (.int k' n)):=by
 have sh:∀ op,Tm P pm fr (Op.shift op k m k' n):=fun op=>by
  unfold Op.shift;split
  ·exact .runtimePanic _
  ·cases op <;> first | exact .pure _ | exact .halt _
 have dv:∀ op,Tm P pm fr (Op.intDiv op k m n):=fun op=>by
  unfold Op.intDiv;split
  ·exact .runtimePanic _
  ·cases op <;> first | exact .pure _ | exact .halt _
 have ar:∀ op,Tm P pm fr (Op.intArith op k m n):=fun op=>by cases op <;> first | exact .pure _ | exact .halt _
 have bt:∀ op,Tm P pm fr (Op.intBits op k m n):=fun op=>by cases op <;> first | exact .pure _ | exact .halt _
 have cm:∀ op,Tm P pm fr (Op.intCmp op m n):=fun op=>by cases op <;> first | exact .pure _ | exact .halt _
 by_cases hk:k = k'
 ·subst hk;cases op <;> simp only [binOp,ne_eq,not_true_eq_false,if_false] <;> first | exact sh _ | exact dv _ | exact ar _ | exact bt _ | exact cm _
 ·cases op <;> simp only [binOp,ne_eq,hk,not_false_eq_true,if_true] <;> first | exact sh _ | exact .halt _
end
theorem Ev.fa {op:BinOp} {k:IntKind} {m n:Int} {r:Value} (hx:Opd F g x (.int k m)) (hy:Opd F g y (.int k n)) (h:∀ w,(binOp op t (.int k m) (.int k n)).run P w = .ok r w) :
 Ev P K F L g (.binOp op t x y t') ty r:=Ev.bin hx hy (fun w=>ef w) h df eW
theorem iZ {op:BinOp} {k:IntKind} {m n:Int} (hop:op = .add ∨ op = .sub ∨ op = .mul) (w:World) :
 (binOp op t (.int k m) (.int k n)).run P w = .ok (.int k (k.wrap (match op with | .add=>m + n | .sub=>m - n | _=>m * n))) w:=by
 rcases hop with rfl | rfl | rfl <;> simp [binOp,Op.intArith]
theorem fG {op:BinOp} {k:IntKind} {m n:Int} (hop:op = .and ∨ op = .or ∨ op = .xor ∨ op = .andNot) (w:World) :
 (binOp op t (.int k m) (.int k n)).run P w = .ok (.int k (k.wrap ((match op with
  | .and=>BitVec.ofInt k.bits m &&& BitVec.ofInt k.bits n | .or=>BitVec.ofInt k.bits m ||| BitVec.ofInt k.bits n
  | .xor=>BitVec.ofInt k.bits m ^^^ BitVec.ofInt k.bits n | _=>BitVec.ofInt k.bits m &&& ~~~ BitVec.ofInt k.bits n:BitVec k.bits).toNat:Int))) w:=by
 rcases hop with rfl | rfl | rfl | rfl <;> simp [binOp,Op.intBits]
theorem dg {op:BinOp} {k:IntKind} {m n:Int} {b:Bool} (h:(Op.intCmp op m n) = pure (.bool b)) (hop:op = .eql ∨ op = .neq ∨ op = .lss ∨ op = .leq ∨ op = .gtr ∨ op = .geq) (w:World) :
 (binOp op t (.int k m) (.int k n)).run P w = .ok (.bool b) w:=by
 rcases hop with rfl | rfl | rfl | rfl | rfl | rfl <;> simp [binOp,h]
theorem wH {k yk:IntKind} {m:Int} {c:Int} (hc:0 ≤ c) (w:World):(binOp .shl t (.int k m) (.int yk c)).run P w = .ok (.int k (k.wrap (m * 2 ^ (min c.toNat k.bits)))) w:=by
 have:¬ c < 0:=by omega
 simp [binOp,Op.shift,this]
theorem pz {k yk:IntKind} {m:Int} {c:Int} (hc:0 ≤ c) (w:World):(binOp .shr t (.int k m) (.int yk c)).run P w = .ok (.int k (m.fdiv (2 ^ (min c.toNat k.bits)))) w:=by
 have:¬ c < 0:=by omega
 simp [binOp,Op.shift,this]
theorem r6 {op:BinOp} {k:IntKind} {m n:Int} (hop:op = .quo ∨ op = .rem) (hn:n ≠ 0) (w:World) :
 (binOp op t (.int k m) (.int k n)).run P w = .ok (.int k (match op with | .quo=>k.wrap (m.tdiv n) | _=>m.tmod n)) w:=by
 rcases hop with rfl | rfl <;> simp [binOp,Op.intDiv,hn]
theorem Ev.bL {m n:Int} (hx:Opd F g x (I m)) (hy:Opd F g y (I n)) (h:g = true→Fit (m + n)):Ev P K F L g (.binOp .add t x y t') ty (I (m + n)):=fun hg =>
 Ev.fa hx hy (fun w=>by rw [iZ (.inl rfl)]; simp only [wrap_i64 (h hg)]; rfl) hg
theorem Ev.jV {m n:Int} (hx:Opd F g x (I m)) (hy:Opd F g y (I n)) (h:g = true→Fit (m - n)):Ev P K F L g (.binOp .sub t x y t') ty (I (m - n)):=fun hg =>
 Ev.fa hx hy (fun w=>by rw [iZ (.inr (.inl rfl))]; simp only [wrap_i64 (h hg)]; rfl) hg
theorem Ev.mul_i {m n:Int} (hx:Opd F g x (I m)) (hy:Opd F g y (I n)) (h:g = true→Fit (m * n)):Ev P K F L g (.binOp .mul t x y t') ty (I (m * n)):=fun hg =>
 Ev.fa hx hy (fun w=>by rw [iZ (.inr (.inr rfl))]; simp only [wrap_i64 (h hg)]; rfl) hg
theorem Ev.quo_i {m n:Int} (hx:Opd F g x (I m)) (hy:Opd F g y (I n)) (hn:g = true→n ≠ 0) (h:g = true→Fit (m.tdiv n)):Ev P K F L g (.binOp .quo t x y t') ty (I (m.tdiv n)):=fun hg =>
 Ev.fa hx hy (fun w=>by rw [r6 (.inl rfl) (hn hg)]; simp only [wrap_i64 (h hg)]; rfl) hg
theorem Ev.rem_i {m n:Int} (hx:Opd F g x (I m)) (hy:Opd F g y (I n)) (hn:g = true→n ≠ 0):Ev P K F L g (.binOp .rem t x y t') ty (I (m.tmod n)):=fun hg =>
 Ev.fa hx hy (fun w=>by rw [r6 (.inr rfl) (hn hg)]; rfl) hg
theorem Ev.quo_n {m n:Int} (hx:Opd F g x (I m)) (hy:Opd F g y (I n)) (hm:g = true→0 ≤ m) (hm':g = true→m ≤ 9223372036854775807) (hn:g = true→0 < n):Ev P K F L g (.binOp .quo t x y t') ty (I (m / n)):=fun hg=>by
 have h1:=hm hg;have h2:=hm' hg;have h3:=hn hg;have e:m.tdiv n = m / n:=Int.tdiv_eq_ediv_of_nonneg h1;have h4:0 ≤ m / n:=Int.ediv_nonneg h1 (by omega);have h5:m / n ≤ m:=Int.ediv_le_self n h1;rw [← e];exact Ev.quo_i hx hy (fun _=>by omega) (fun _=>by rw [e]; exact ⟨by omega,by omega⟩) hg
theorem Ev.rem_n {m n:Int} (hx:Opd F g x (I m)) (hy:Opd F g y (I n)) (hm:g = true→0 ≤ m) (hn:g = true→0 < n):Ev P K F L g (.binOp .rem t x y t') ty (I (m % n)):=fun hg=>by
 have h1:=hm hg;have h3:=hn hg;have e:m.tmod n = m % n:=Int.tmod_eq_emod_of_nonneg h1;rw [← e];exact Ev.rem_i hx hy (fun _=>by omega) hg
theorem Ev.dO {m n:Int} (hx:Opd F g x (I m)) (hy:Opd F g y (I n)):Ev P K F L g (.binOp .eql t x y t') ty (.bool (decide (m = n))) :=
 Ev.fa hx hy (dg (by unfold Op.intCmp; rfl) (.inl rfl))
theorem Ev.dS {m n:Int} (hx:Opd F g x (I m)) (hy:Opd F g y (I n)):Ev P K F L g (.binOp .neq t x y t') ty (.bool (decide (¬ m = n))) :=
 Ev.fa hx hy (dg (by unfold Op.intCmp; show pure (Value.bool (!decide (m = n))) = _; rw [decide_not]) (.inr (.inl rfl)))
theorem Ev.cj {m n:Int} (hx:Opd F g x (I m)) (hy:Opd F g y (I n)):Ev P K F L g (.binOp .lss t x y t') ty (.bool (decide (m < n))) :=
 Ev.fa hx hy (dg rfl (.inr (.inr (.inl rfl))))
theorem Ev.leq_i {m n:Int} (hx:Opd F g x (I m)) (hy:Opd F g y (I n)):Ev P K F L g (.binOp .leq t x y t') ty (.bool (decide (m ≤ n))) :=
 Ev.fa hx hy (dg rfl (.inr (.inr (.inr (.inl rfl)))))
theorem Ev.ir {m n:Int} (hx:Opd F g x (I m)) (hy:Opd F g y (I n)):Ev P K F L g (.binOp .gtr t x y t') ty (.bool (decide (n < m))) :=
 Ev.fa hx hy (dg rfl (.inr (.inr (.inr (.inr (.inl rfl))))))
theorem Ev.tS {m n:Int} (hx:Opd F g x (I m)) (hy:Opd F g y (I n)):Ev P K F L g (.binOp .geq t x y t') ty (.bool (decide (n ≤ m))) :=
 Ev.fa hx hy (dg rfl (.inr (.inr (.inr (.inr (.inr rfl))))))
theorem Ev.bits_i {op:BinOp} {m n:Nat} {r:Nat} (hop:op = .and ∨ op = .or ∨ op = .xor) (hx:Opd F g x (I m)) (hy:Opd F g y (I n)) (hm:g = true→m < 2 ^ 63) (hn:g = true→n < 2 ^ 63)
 (hr:r = (match op with | .and=>m &&& n | .or=>m ||| n | _=>m ^^^ n)):Ev P K F L g (.binOp op t x y t') ty (I (r:Nat)):=fun hg =>
 Ev.fa (m:=(m:Int)) (n:=(n:Int)) hx hy (fun w=>by
  have h1:=hm hg;have h2:=hn hg;have e1:BitVec.ofInt 64 (m:Int) = BitVec.ofNat 64 m:=by simp
  have e2:BitVec.ofInt 64 (n:Int) = BitVec.ofNat 64 n:=by simp
  have l1:m % 2 ^ 64 = m:=Nat.mod_eq_of_lt (by omega);have l2:n % 2 ^ 64 = n:=Nat.mod_eq_of_lt (by omega);have b1:(m &&& n) < 2 ^ 63:=Nat.and_lt_two_pow _ h2;have b2:(m ||| n) < 2 ^ 63:=Nat.or_lt_two_pow h1 h2;have b3:(m ^^^ n) < 2 ^ 63:=Nat.xor_lt_two_pow h1 h2
  rcases hop with rfl | rfl | rfl
  ·rw [fG (.inl rfl)];show Result.ok (Value.int .i64 (IntKind.i64.wrap (((BitVec.ofInt 64 (m:Int) &&& BitVec.ofInt 64 (n:Int):BitVec 64).toNat:Nat):Int))) w = _;rw [e1,e2,BitVec.toNat_and,BitVec.toNat_ofNat,BitVec.toNat_ofNat,l1,l2,wrap_i64 ⟨by omega,by omega⟩,hr]
   rfl
  ·rw [fG (.inr (.inl rfl))];show Result.ok (Value.int .i64 (IntKind.i64.wrap (((BitVec.ofInt 64 (m:Int) ||| BitVec.ofInt 64 (n:Int):BitVec 64).toNat:Nat):Int))) w = _;rw [e1,e2,BitVec.toNat_or,BitVec.toNat_ofNat,BitVec.toNat_ofNat,l1,l2,wrap_i64 ⟨by omega,by omega⟩,hr]
   rfl
  ·rw [fG (.inr (.inr (.inl rfl)))];show Result.ok (Value.int .i64 (IntKind.i64.wrap (((BitVec.ofInt 64 (m:Int) ^^^ BitVec.ofInt 64 (n:Int):BitVec 64).toNat:Nat):Int))) w = _;rw [e1,e2,BitVec.toNat_xor,BitVec.toNat_ofNat,BitVec.toNat_ofNat,l1,l2,wrap_i64 ⟨by omega,by omega⟩,hr]
   rfl) hg
theorem Ev.shr_i {m:Int} {yk:IntKind} {c:Int} (hx:Opd F g x (I m)) (hy:Opd F g y (.int yk c)) (hc:g = true→0 ≤ c ∧ c ≤ 64):Ev P K F L g (.binOp .shr t x y t') ty (I (m / 2 ^ c.toNat)):=fun hg =>
 Ev.bin hx hy (fun w=>ef w) (fun w=>by
  have h1:=hc hg;unfold I;rw [pz h1.1,Nat.min_eq_left (by show c.toNat ≤ 64; omega),Int.fdiv_eq_ediv_of_nonneg _ (Int.le_of_lt (Int.pow_pos (by decide)))]) df eW hg
theorem Ev.not {b:Bool} (hx:Opd F g x (.bool b)):Ev P K F L g (.unOp .not t x) ty (.bool !b):=.of rfl (fun hg a G w hw _ _ _ _=>by
 show Tm P _ _ (Op.unary .not (a.eval x) >>= fun r=>pure (Next.value r));rw [hx.eval hg G];exact .pure _) fun hg a G w _ dst pos af gd=>by
 simp [execOp,hx.eval hg G,Op.unary]
theorem rl {b c:Bool} (ht:P.underlying t = some .bool) (w:World):(Op.equal t (.bool b) (.bool c)).run P w = .ok (b == c) w:=by
 have hu:(underlying t).run P w = .ok .bool w:=by simp [underlying,ht]
 show (Op.equalIn (9999 + 1) t (.bool b) (.bool c)).run P w = _;unfold Op.equalIn;simp only [Sem.run_bind,hu,Result.andThen_ok,Sem.run_pure]
theorem sW {pm:Nat→Prop} {fr:Nat} {b c:Bool}:Tm P pm fr (Op.equal t (.bool b) (.bool c)):=by
 show Tm P pm fr (Op.equalIn (9999 + 1) t (.bool b) (.bool c));unfold Op.equalIn;refine .bind (.underlying t) fun d=>?_
 cases d <;> first | exact .pure _ | exact .halt _
theorem Ev.eql_b {b c:Bool} (ht:P.underlying t = some .bool) (hx:Opd F g x (.bool b)) (hy:Opd F g y (.bool c)):Ev P K F L g (.binOp .eql t x y t') ty (.bool (decide (b = c))) :=
 Ev.bin hx hy (fun w=>p9 w) (fun w=>by
  simp only [binOp,Sem.run_bind,rl ht,Result.andThen_ok,Sem.run_pure];cases b <;> cases c <;> rfl) ml (.bind sW fun _=>.pure _)
theorem Ev.neq_b {b c:Bool} (ht:P.underlying t = some .bool) (hx:Opd F g x (.bool b)) (hy:Opd F g y (.bool c)):Ev P K F L g (.binOp .neq t x y t') ty (.bool (decide (¬ b = c))) :=
 Ev.bin hx hy (fun w=>p9 w) (fun w=>by
  simp only [binOp,Sem.run_bind,rl ht,Result.andThen_ok,Sem.run_pure];cases b <;> cases c <;> rfl) ml (.bind sW fun _=>.pure _)
theorem Ev.pickA {z:Operand} {b c gz:Bool} (hx:Opd F g x (.bool b)) (hy:∀ {s},y = .tmp s→look F s = some (gz,.bool c)) (hys:∃ s,y = .tmp s) (hgz:g = true→b = true→gz = true) (hz:Opd F g z (.bool false)) :
 Ev P K F L g (.pick x y z) ty (.bool (b && c)):=.of rfl (fun hg a G w hw _ _ _ _=>.bind (.asBool _) fun _=>.pure _) fun hg a G w _ dst pos af gd=>by
 simp only [execOp,hx.eval hg G,asBool,Sem.run_bind,Sem.run_pure,Result.andThen_ok];obtain ⟨s,rfl⟩:=hys;cases b with
 | false=>simp [hz.eval hg G]
 | true =>
   have h1:=G.fr _ _ _ (hy rfl);rw [hgz hg rfl] at h1;simp only [cond_true] at h1;simp [Act.eval,h1]
theorem Ev.pickO {z:Operand} {b c gz:Bool} (hx:Opd F g x (.bool b)) (hy:Opd F g y (.bool true)) (hz:∀ {s},z = .tmp s→look F s = some (gz,.bool c)) (hzs:∃ s,z = .tmp s) (hgz:g = true→b = false→gz = true) :
 Ev P K F L g (.pick x y z) ty (.bool (b || c)):=.of rfl (fun hg a G w hw _ _ _ _=>.bind (.asBool _) fun _=>.pure _) fun hg a G w _ dst pos af gd=>by
 simp only [execOp,hx.eval hg G,asBool,Sem.run_bind,Sem.run_pure,Result.andThen_ok];obtain ⟨s,rfl⟩:=hzs;cases b with
 | true=>simp [hy.eval hg G]
 | false =>
   have h1:=G.fr _ _ _ (hz rfl);rw [hgz hg rfl] at h1;simp only [cond_true] at h1;simp [Act.eval,h1]
theorem bv_u8 (m:UInt8):BitVec.ofInt 8 (m.toNat:Int) = m.toBitVec:=by
 rw [BitVec.ofInt_natCast]; apply BitVec.eq_of_toNat_eq; have h:=m.toNat_lt; rw [BitVec.toNat_ofNat]; exact Nat.mod_eq_of_lt h
theorem qi (r:BitVec 8):IntKind.u8.wrap (r.toNat:Int) = ((UInt8.ofBitVec r).toNat:Int):=by
 have h:=r.isLt;rw [wrap_u8];show _ = ((r.toNat:Nat):Int);omega
theorem Ev.and_u8 {m n:UInt8} (hx:Opd F g x (U8 m)) (hy:Opd F g y (U8 n)):Ev P K F L g (.binOp .and t x y t') ty (U8 (m &&& n)) :=
 Ev.fa hx hy (fun w=>by rw [fG (.inl rfl)]; simp only [IntKind.bits,bv_u8,qi,U8]; rfl)
theorem Ev.vE {m n:UInt8} (hx:Opd F g x (U8 m)) (hy:Opd F g y (U8 n)):Ev P K F L g (.binOp .or t x y t') ty (U8 (m ||| n)) :=
 Ev.fa hx hy (fun w=>by rw [fG (.inr (.inl rfl))]; simp only [IntKind.bits,bv_u8,qi,U8]; rfl)
theorem Ev.xor_u8 {m n:UInt8} (hx:Opd F g x (U8 m)) (hy:Opd F g y (U8 n)):Ev P K F L g (.binOp .xor t x y t') ty (U8 (m ^^^ n)) :=
 Ev.fa hx hy (fun w=>by rw [fG (.inr (.inr (.inl rfl)))]; simp only [IntKind.bits,bv_u8,qi,U8]; rfl)
theorem Ev.wi {m n:UInt8} (hx:Opd F g x (U8 m)) (hy:Opd F g y (U8 n)):Ev P K F L g (.binOp .andNot t x y t') ty (U8 (m &&& ~~~ n)) :=
 Ev.fa hx hy (fun w=>by rw [fG (.inr (.inr (.inr rfl)))]; simp only [IntKind.bits,bv_u8,qi,U8]; rfl)
def shl8 (m:UInt8) (c:Nat):UInt8:=UInt8.ofNat (m.toNat * 2 ^ c)
def mz (m:UInt8) (c:Nat):UInt8:=UInt8.ofNat (m.toNat / 2 ^ c)
theorem toNat_shl8 (m:UInt8) (c:Nat):(shl8 m c).toNat = m.toNat * 2 ^ c % 256:=by unfold shl8; simp
theorem sU (m:UInt8) (c:Nat):(mz m c).toNat = m.toNat / 2 ^ c:=by
 have h:=m.toNat_lt;have h2:=Nat.div_le_self m.toNat (2 ^ c);unfold mz;simp only [UInt8.toNat_ofNat'];exact Nat.mod_eq_of_lt (by omega)
theorem Ev.shl_u8 {m:UInt8} {yk:IntKind} {c:Int} (hx:Opd F g x (U8 m)) (hy:Opd F g y (.int yk c)) (hc:g = true→0 ≤ c):Ev P K F L g (.binOp .shl t x y t') ty (U8 (shl8 m c.toNat)):=fun hg =>
 Ev.bin hx hy (fun w=>ef w) (fun w=>by
  unfold U8;rw [wH (hc hg),wrap_u8,toNat_shl8]
  congr 2
  show (m.toNat:Int) * 2 ^ (min c.toNat 8) % 256 = _;have e:((m.toNat * 2 ^ c.toNat % 256:Nat):Int) = (m.toNat:Int) * 2 ^ c.toNat % 256:=by simp
  rw [e]
  rcases Nat.le_total c.toNat 8 with h | h
  ·rw [Nat.min_eq_left h]
  ·rw [Nat.min_eq_right h];obtain ⟨d,hd⟩:=Nat.exists_eq_add_of_le h;rw [hd,Int.pow_add,← Int.mul_assoc,Int.mul_assoc _ _ (2 ^ d),Int.mul_comm (2 ^ 8) (2 ^ d),← Int.mul_assoc];have e3:((2:Int) ^ 8) = 256:=by decide
   rw [e3,Int.mul_emod_left,Int.mul_emod_left]) df eW hg
theorem xC (m n:UInt8):((m.toNat:Int) = n.toNat) ↔ m = n:=by rw [← UInt8.toNat_inj]; omega
theorem Ev.jQ {m n:UInt8} (hx:Opd F g x (U8 m)) (hy:Opd F g y (U8 n)):Ev P K F L g (.binOp .eql t x y t') ty (.bool (decide (m = n))) :=
 Ev.fa hx hy (dg (by unfold Op.intCmp; show pure (Value.bool (decide ((m.toNat:Int) = n.toNat))) = _; simp only [xC]) (.inl rfl))
theorem Ev.lu {m n:UInt8} (hx:Opd F g x (U8 m)) (hy:Opd F g y (U8 n)):Ev P K F L g (.binOp .neq t x y t') ty (.bool (decide (¬ m = n))) :=
 Ev.fa hx hy (dg (by unfold Op.intCmp; show pure (Value.bool (!decide ((m.toNat:Int) = n.toNat))) = _; simp only [xC,decide_not]) (.inr (.inl rfl)))
theorem ur (m n:UInt16):((m.toNat:Int) = n.toNat) ↔ m = n:=by rw [← UInt16.toNat_inj]; omega
theorem Ev.sb {m n:UInt16} (hx:Opd F g x (U16 m)) (hy:Opd F g y (U16 n)):Ev P K F L g (.binOp .neq t x y t') ty (.bool (decide (¬ m = n))) :=
 Ev.fa hx hy (dg (by unfold Op.intCmp; show pure (Value.bool (!decide ((m.toNat:Int) = n.toNat))) = _; simp only [ur,decide_not]) (.inr (.inl rfl)))
theorem Ev.so {m n:UInt16} (hx:Opd F g x (U16 m)) (hy:Opd F g y (U16 n)):Ev P K F L g (.binOp .gtr t x y t') ty (.bool (decide (n < m))) :=
 Ev.fa hx hy (dg (by unfold Op.intCmp; simp only [UInt16.lt_iff_toNat_lt,Int.ofNat_lt,gt_iff_lt]) (.inr (.inr (.inr (.inr (.inl rfl))))))
theorem cast_u32 (m n:UInt32):((m.toNat:Int) = n.toNat) ↔ m = n:=by rw [← UInt32.toNat_inj]; omega
theorem Ev.neq_u32 {m n:UInt32} (hx:Opd F g x (U32 m)) (hy:Opd F g y (U32 n)):Ev P K F L g (.binOp .neq t x y t') ty (.bool (decide (¬ m = n))) :=
 Ev.fa hx hy (dg (by unfold Op.intCmp; show pure (Value.bool (!decide ((m.toNat:Int) = n.toNat))) = _; simp only [cast_u32,decide_not]) (.inr (.inl rfl)))
theorem Ev.gtr_u32 {m n:UInt32} (hx:Opd F g x (U32 m)) (hy:Opd F g y (U32 n)):Ev P K F L g (.binOp .gtr t x y t') ty (.bool (decide (n < m))) :=
 Ev.fa hx hy (dg (by unfold Op.intCmp; simp only [UInt32.lt_iff_toNat_lt,Int.ofNat_lt,gt_iff_lt]) (.inr (.inr (.inr (.inr (.inl rfl))))))
def iS (m:UInt64) (c:Nat):UInt64:=UInt64.ofNat (m.toNat * 2 ^ c)
theorem cast_u64 (m n:UInt64):((m.toNat:Int) = n.toNat) ↔ m = n:=by rw [← UInt64.toNat_inj]; omega
theorem Ev.j3 {m n:UInt64} (hx:Opd F g x (U64 m)) (hy:Opd F g y (U64 n)):Ev P K F L g (.binOp .lss t x y t') ty (.bool (decide (m < n))) :=
 Ev.fa hx hy (dg (by unfold Op.intCmp; simp only [UInt64.lt_iff_toNat_lt,Int.ofNat_lt]) (.inr (.inr (.inl rfl))))
theorem Ev.gJ {m n:UInt64} (hx:Opd F g x (U64 m)) (hy:Opd F g y (U64 n)):Ev P K F L g (.binOp .gtr t x y t') ty (.bool (decide (n < m))) :=
 Ev.fa hx hy (dg (by unfold Op.intCmp; simp only [UInt64.lt_iff_toNat_lt,Int.ofNat_lt,gt_iff_lt]) (.inr (.inr (.inr (.inr (.inl rfl))))))
theorem Ev.conv {k k':IntKind} {m:Int} {r:Value} (ht:P.underlying t' = some (.int k')) (ht0:P.underlying t = some (.int k)) (hx:Opd F g x (.int k m)) (hr:r = .int k' (k'.wrap m)):Ev P K F L g (.convert t t' x) ty r:=.of rfl (fun hg a G w hw _ _ _ _=>by
 show Tm P _ _ (convert t t' (a.eval x) >>= fun r=>pure (Next.value r));rw [hx.eval hg G];refine .bind ?_ fun _=>.pure _
 unfold convert;exact .under ht0 (.under ht (.pure _))) fun hg a G w _ dst pos af gd=>by
 have h1:(underlying t).run P w = .ok (.int k) w:=by simp [underlying,ht0]
 have h2:(underlying t').run P w = .ok (.int k') w:=by simp [underlying,ht]
 simp only [execOp,hx.eval hg G,convert,Sem.run_bind,h1,h2,Result.andThen_ok,Conv.intToInt,Sem.run_pure,hr]
theorem Ev.vX {m:UInt8} (ht:P.underlying t' = some (.int .i64)) (ht0:P.underlying t = some (.int .u8)) (hx:Opd F g x (U8 m)):Ev P K F L g (.convert t t' x) ty (I (m.toNat:Int)) :=
 Ev.conv ht ht0 hx (by have h:=m.toNat_lt; rw [wrap_i64 ⟨by omega,by omega⟩]; rfl)
theorem Ev.kO {m:UInt16} (ht:P.underlying t' = some (.int .i64)) (ht0:P.underlying t = some (.int .u16)) (hx:Opd F g x (U16 m)):Ev P K F L g (.convert t t' x) ty (I (m.toNat:Int)) :=
 Ev.conv ht ht0 hx (by have h:=m.toNat_lt; rw [wrap_i64 ⟨by omega,by omega⟩]; rfl)
theorem wrap_u16 (n:Int):IntKind.u16.wrap n = n % 65536:=by
 unfold IntKind.wrap IntKind.bits IntKind.signed; simp
theorem wrap_u32 (n:Int):IntKind.u32.wrap n = n % 4294967296:=by
 unfold IntKind.wrap IntKind.bits IntKind.signed; simp
theorem wrap_u64 (n:Int):IntKind.u64.wrap n = n % 18446744073709551616:=by
 unfold IntKind.wrap IntKind.bits IntKind.signed; simp
theorem Ev.add_u8 {m n:UInt8} (hx:Opd F g x (U8 m)) (hy:Opd F g y (U8 n)):Ev P K F L g (.binOp .add t x y t') ty (U8 (m + n)) :=
 Ev.fa hx hy (fun w=>by rw [iZ (.inl rfl)]; simp only [wrap_u8,U8,UInt8.toNat_add]; congr 2)
theorem Ev.compl_u8 {m:UInt8} (hx:Opd F g x (U8 m)):Ev P K F L g (.unOp .xor t x) ty (U8 (~~~ m)):=.of rfl (fun hg a G w hw _ _ _ _=>by
 show Tm P _ _ (Op.unary .xor (a.eval x) >>= fun r=>pure (Next.value r));rw [hx.eval hg G];exact .bind (.pure _) fun _=>.pure _) fun hg a G w _ dst pos af gd=>by
 have e:BitVec.ofInt 8 (IntKind.u8.max) = BitVec.allOnes 8:=by decide
 have e2:∀ (m:UInt8),BitVec.allOnes 8 ^^^ m.toBitVec = (~~~ m).toBitVec:=fun m=>by rw [BitVec.allOnes_xor]; rfl
 simp only [execOp,hx.eval hg G,Op.unary,U8,Op.intBits,IntKind.signed,IntKind.bits,e,bv_u8,qi,e2,Sem.run_bind,Sem.run_pure,Result.andThen_ok,Bool.false_eq_true,if_false]
 rfl
theorem Ev.shr_u8 {m:UInt8} {yk:IntKind} {c:Int} (hx:Opd F g x (U8 m)) (hy:Opd F g y (.int yk c)) (hc:g = true→0 ≤ c):Ev P K F L g (.binOp .shr t x y t') ty (U8 (mz m c.toNat)):=fun hg =>
 Ev.bin hx hy (fun w=>ef w) (fun w=>by
  unfold U8;rw [pz (hc hg),sU]
  congr 2
  show (m.toNat:Int).fdiv (2 ^ (min c.toNat 8)) = _;rw [Int.fdiv_eq_ediv_of_nonneg _ (Int.le_of_lt (Int.pow_pos (by decide)))];have e:((m.toNat / 2 ^ c.toNat:Nat):Int) = (m.toNat:Int) / 2 ^ c.toNat:=by simp
  rw [e]
  rcases Nat.le_total c.toNat 8 with h | h
  ·rw [Nat.min_eq_left h]
  ·rw [Nat.min_eq_right h];have h1:=m.toNat_lt;have e3:((2:Int) ^ 8) = 256:=by decide
   have h2:(2:Int) ^ 8 ≤ 2 ^ c.toNat:=by
    have:=Nat.pow_le_pow_right (n:=2) (by decide) h
    exact_mod_cast this
   rw [Int.ediv_eq_zero_of_lt (by omega) (by omega),Int.ediv_eq_zero_of_lt (by omega) (by omega)]) df eW hg
theorem bv_u16 (m:UInt16):BitVec.ofInt 16 (m.toNat:Int) = m.toBitVec:=by
 rw [BitVec.ofInt_natCast]; apply BitVec.eq_of_toNat_eq; have h:=m.toNat_lt; rw [BitVec.toNat_ofNat]; exact Nat.mod_eq_of_lt h
theorem back_u16 (r:BitVec 16):IntKind.u16.wrap (r.toNat:Int) = ((UInt16.ofBitVec r).toNat:Int):=by
 have h:=r.isLt;rw [wrap_u16];show _ = ((r.toNat:Nat):Int);omega
theorem Ev.vZ {m:UInt16} (hx:Opd F g x (U16 m)):Ev P K F L g (.unOp .xor t x) ty (U16 (~~~ m)):=.of rfl (fun hg a G w hw _ _ _ _=>by
 show Tm P _ _ (Op.unary .xor (a.eval x) >>= fun r=>pure (Next.value r));rw [hx.eval hg G];exact .bind (.pure _) fun _=>.pure _) fun hg a G w _ dst pos af gd=>by
 have e:BitVec.ofInt 16 (IntKind.u16.max) = BitVec.allOnes 16:=by decide
 have e2:∀ (m:UInt16),BitVec.allOnes 16 ^^^ m.toBitVec = (~~~ m).toBitVec:=fun m=>by rw [BitVec.allOnes_xor]; rfl
 simp only [execOp,hx.eval hg G,Op.unary,U16,Op.intBits,IntKind.signed,IntKind.bits,e,bv_u16,back_u16,e2,Sem.run_bind,Sem.run_pure,Result.andThen_ok,Bool.false_eq_true,if_false]
 rfl
def vk (m:UInt16) (c:Nat):UInt16:=UInt16.ofNat (m.toNat / 2 ^ c)
theorem toNat_shr16 (m:UInt16) (c:Nat):(vk m c).toNat = m.toNat / 2 ^ c:=by
 have h:=m.toNat_lt;have h2:=Nat.div_le_self m.toNat (2 ^ c);unfold vk;simp only [UInt16.toNat_ofNat'];exact Nat.mod_eq_of_lt (by omega)
theorem Ev.shr_u16 {m:UInt16} {yk:IntKind} {c:Int} (hx:Opd F g x (U16 m)) (hy:Opd F g y (.int yk c)) (hc:g = true→0 ≤ c):Ev P K F L g (.binOp .shr t x y t') ty (U16 (vk m c.toNat)):=fun hg =>
 Ev.bin hx hy (fun w=>ef w) (fun w=>by
  unfold U16;rw [pz (hc hg),toNat_shr16]
  congr 2
  show (m.toNat:Int).fdiv (2 ^ (min c.toNat 16)) = _;rw [Int.fdiv_eq_ediv_of_nonneg _ (Int.le_of_lt (Int.pow_pos (by decide)))];have e:((m.toNat / 2 ^ c.toNat:Nat):Int) = (m.toNat:Int) / 2 ^ c.toNat:=by simp
  rw [e]
  rcases Nat.le_total c.toNat 16 with h | h
  ·rw [Nat.min_eq_left h]
  ·rw [Nat.min_eq_right h];have h1:=m.toNat_lt;have e3:((2:Int) ^ 16) = 65536:=by decide
   have h2:(2:Int) ^ 16 ≤ 2 ^ c.toNat:=by
    have:=Nat.pow_le_pow_right (n:=2) (by decide) h
    exact_mod_cast this
   rw [Int.ediv_eq_zero_of_lt (by omega) (by omega),Int.ediv_eq_zero_of_lt (by omega) (by omega)]) df eW hg
theorem Ev.eql_u16 {m n:UInt16} (hx:Opd F g x (U16 m)) (hy:Opd F g y (U16 n)):Ev P K F L g (.binOp .eql t x y t') ty (.bool (decide (m = n))) :=
 Ev.fa hx hy (dg (by unfold Op.intCmp; show pure (Value.bool (decide ((m.toNat:Int) = n.toNat))) = _; simp only [ur]) (.inl rfl))
theorem bv_u32 (m:UInt32):BitVec.ofInt 32 (m.toNat:Int) = m.toBitVec:=by
 rw [BitVec.ofInt_natCast]; apply BitVec.eq_of_toNat_eq; have h:=m.toNat_lt; rw [BitVec.toNat_ofNat]; exact Nat.mod_eq_of_lt h
theorem uz (r:BitVec 32):IntKind.u32.wrap (r.toNat:Int) = ((UInt32.ofBitVec r).toNat:Int):=by
 have h:=r.isLt;rw [wrap_u32];show _ = ((r.toNat:Nat):Int);omega
theorem Ev.and_u32 {m n:UInt32} (hx:Opd F g x (U32 m)) (hy:Opd F g y (U32 n)):Ev P K F L g (.binOp .and t x y t') ty (U32 (m &&& n)) :=
 Ev.fa hx hy (fun w=>by rw [fG (.inl rfl)]; simp only [IntKind.bits,bv_u32,uz,U32]; rfl)
theorem Ev.or_u32 {m n:UInt32} (hx:Opd F g x (U32 m)) (hy:Opd F g y (U32 n)):Ev P K F L g (.binOp .or t x y t') ty (U32 (m ||| n)) :=
 Ev.fa hx hy (fun w=>by rw [fG (.inr (.inl rfl))]; simp only [IntKind.bits,bv_u32,uz,U32]; rfl)
theorem Ev.compl_u32 {m:UInt32} (hx:Opd F g x (U32 m)):Ev P K F L g (.unOp .xor t x) ty (U32 (~~~ m)):=.of rfl (fun hg a G w hw _ _ _ _=>by
 show Tm P _ _ (Op.unary .xor (a.eval x) >>= fun r=>pure (Next.value r));rw [hx.eval hg G];exact .bind (.pure _) fun _=>.pure _) fun hg a G w _ dst pos af gd=>by
 have e:BitVec.ofInt 32 (IntKind.u32.max) = BitVec.allOnes 32:=by decide
 have e2:∀ (m:UInt32),BitVec.allOnes 32 ^^^ m.toBitVec = (~~~ m).toBitVec:=fun m=>by rw [BitVec.allOnes_xor]; rfl
 simp only [execOp,hx.eval hg G,Op.unary,U32,Op.intBits,IntKind.signed,IntKind.bits,e,bv_u32,uz,e2,Sem.run_bind,Sem.run_pure,Result.andThen_ok,Bool.false_eq_true,if_false]
 rfl
def mU (m:UInt32) (c:Nat):UInt32:=UInt32.ofNat (m.toNat * 2 ^ c)
def vj (m:UInt32) (c:Nat):UInt32:=UInt32.ofNat (m.toNat / 2 ^ c)
theorem ra (m:UInt32) (c:Nat):(mU m c).toNat = m.toNat * 2 ^ c % 4294967296:=by unfold mU; simp
theorem toNat_shr32 (m:UInt32) (c:Nat):(vj m c).toNat = m.toNat / 2 ^ c:=by
 have h:=m.toNat_lt;have h2:=Nat.div_le_self m.toNat (2 ^ c);unfold vj;simp only [UInt32.toNat_ofNat'];exact Nat.mod_eq_of_lt (by omega)
theorem Ev.shl_u32 {m:UInt32} {yk:IntKind} {c:Int} (hx:Opd F g x (U32 m)) (hy:Opd F g y (.int yk c)) (hc:g = true→0 ≤ c):Ev P K F L g (.binOp .shl t x y t') ty (U32 (mU m c.toNat)):=fun hg =>
 Ev.bin hx hy (fun w=>ef w) (fun w=>by
  unfold U32;rw [wH (hc hg),wrap_u32,ra]
  congr 2
  show (m.toNat:Int) * 2 ^ (min c.toNat 32) % 4294967296 = _;have e:((m.toNat * 2 ^ c.toNat % 4294967296:Nat):Int) = (m.toNat:Int) * 2 ^ c.toNat % 4294967296:=by simp
  rw [e]
  rcases Nat.le_total c.toNat 32 with h | h
  ·rw [Nat.min_eq_left h]
  ·rw [Nat.min_eq_right h];obtain ⟨d,hd⟩:=Nat.exists_eq_add_of_le h;rw [hd,Int.pow_add,← Int.mul_assoc,Int.mul_assoc _ _ (2 ^ d),Int.mul_comm (2 ^ 32) (2 ^ d),← Int.mul_assoc];have e3:((2:Int) ^ 32) = 4294967296:=by decide
   rw [e3,Int.mul_emod_left,Int.mul_emod_left]) df eW hg
theorem Ev.shr_u32 {m:UInt32} {yk:IntKind} {c:Int} (hx:Opd F g x (U32 m)) (hy:Opd F g y (.int yk c)) (hc:g = true→0 ≤ c):Ev P K F L g (.binOp .shr t x y t') ty (U32 (vj m c.toNat)):=fun hg =>
 Ev.bin hx hy (fun w=>ef w) (fun w=>by
  unfold U32;rw [pz (hc hg),toNat_shr32]
  congr 2
  show (m.toNat:Int).fdiv (2 ^ (min c.toNat 32)) = _;rw [Int.fdiv_eq_ediv_of_nonneg _ (Int.le_of_lt (Int.pow_pos (by decide)))];have e:((m.toNat / 2 ^ c.toNat:Nat):Int) = (m.toNat:Int) / 2 ^ c.toNat:=by simp
  rw [e]
  rcases Nat.le_total c.toNat 32 with h | h
  ·rw [Nat.min_eq_left h]
  ·rw [Nat.min_eq_right h];have h1:=m.toNat_lt;have e3:((2:Int) ^ 32) = 4294967296:=by decide
   have h2:(2:Int) ^ 32 ≤ 2 ^ c.toNat:=by
    have:=Nat.pow_le_pow_right (n:=2) (by decide) h
    exact_mod_cast this
   rw [Int.ediv_eq_zero_of_lt (by omega) (by omega),Int.ediv_eq_zero_of_lt (by omega) (by omega)]) df eW hg
theorem Ev.gK {m n:UInt64} (hx:Opd F g x (U64 m)) (hy:Opd F g y (U64 n)):Ev P K F L g (.binOp .add t x y t') ty (U64 (m + n)) :=
 Ev.fa hx hy (fun w=>by rw [iZ (.inl rfl)]; simp only [wrap_u64,U64,UInt64.toNat_add]; congr 2)
theorem Ev.mul_u64 {m n:UInt64} (hx:Opd F g x (U64 m)) (hy:Opd F g y (U64 n)):Ev P K F L g (.binOp .mul t x y t') ty (U64 (m * n)) :=
 Ev.fa hx hy (fun w=>by rw [iZ (.inr (.inr rfl))]; simp only [wrap_u64,U64,UInt64.toNat_mul]; congr 2)
theorem bv_u64 (m:UInt64):BitVec.ofInt 64 (m.toNat:Int) = m.toBitVec:=by
 rw [BitVec.ofInt_natCast]; apply BitVec.eq_of_toNat_eq; have h:=m.toNat_lt; rw [BitVec.toNat_ofNat]; exact Nat.mod_eq_of_lt h
theorem uw (r:BitVec 64):IntKind.u64.wrap (r.toNat:Int) = ((UInt64.ofBitVec r).toNat:Int):=by
 have h:=r.isLt;rw [wrap_u64];show _ = ((r.toNat:Nat):Int);omega
theorem Ev.sB {m n:UInt64} (hx:Opd F g x (U64 m)) (hy:Opd F g y (U64 n)):Ev P K F L g (.binOp .and t x y t') ty (U64 (m &&& n)) :=
 Ev.fa hx hy (fun w=>by rw [fG (.inl rfl)]; simp only [IntKind.bits,bv_u64,uw,U64]; rfl)
theorem Ev.wS {m n:UInt64} (hx:Opd F g x (U64 m)) (hy:Opd F g y (U64 n)):Ev P K F L g (.binOp .or t x y t') ty (U64 (m ||| n)) :=
 Ev.fa hx hy (fun w=>by rw [fG (.inr (.inl rfl))]; simp only [IntKind.bits,bv_u64,uw,U64]; rfl)
theorem Ev.xor_u64 {m n:UInt64} (hx:Opd F g x (U64 m)) (hy:Opd F g y (U64 n)):Ev P K F L g (.binOp .xor t x y t') ty (U64 (m ^^^ n)) :=
 Ev.fa hx hy (fun w=>by rw [fG (.inr (.inr (.inl rfl)))]; simp only [IntKind.bits,bv_u64,uw,U64]; rfl)
def dR (m:UInt64) (c:Nat):UInt64:=UInt64.ofNat (m.toNat / 2 ^ c)
theorem jw (m:UInt64) (c:Nat):(iS m c).toNat = m.toNat * 2 ^ c % 18446744073709551616:=by unfold iS; simp
theorem bU (m:UInt64) (c:Nat):(dR m c).toNat = m.toNat / 2 ^ c:=by
 have h:=m.toNat_lt;have h2:=Nat.div_le_self m.toNat (2 ^ c);unfold dR;simp only [UInt64.toNat_ofNat'];exact Nat.mod_eq_of_lt (by omega)
theorem Ev.pw {m:UInt64} {yk:IntKind} {c:Int} (hx:Opd F g x (U64 m)) (hy:Opd F g y (.int yk c)) (hc:g = true→0 ≤ c):Ev P K F L g (.binOp .shl t x y t') ty (U64 (iS m c.toNat)):=fun hg =>
 Ev.bin hx hy (fun w=>ef w) (fun w=>by
  unfold U64;rw [wH (hc hg),wrap_u64,jw]
  congr 2
  show (m.toNat:Int) * 2 ^ (min c.toNat 64) % 18446744073709551616 = _;have e:((m.toNat * 2 ^ c.toNat % 18446744073709551616:Nat):Int) = (m.toNat:Int) * 2 ^ c.toNat % 18446744073709551616:=by simp
  rw [e]
  rcases Nat.le_total c.toNat 64 with h | h
  ·rw [Nat.min_eq_left h]
  ·rw [Nat.min_eq_right h];obtain ⟨d,hd⟩:=Nat.exists_eq_add_of_le h;rw [hd,Int.pow_add,← Int.mul_assoc,Int.mul_assoc _ _ (2 ^ d),Int.mul_comm (2 ^ 64) (2 ^ d),← Int.mul_assoc];have e3:((2:Int) ^ 64) = 18446744073709551616:=by decide
   rw [e3,Int.mul_emod_left,Int.mul_emod_left]) df eW hg
theorem Ev.jm {m:UInt64} {yk:IntKind} {c:Int} (hx:Opd F g x (U64 m)) (hy:Opd F g y (.int yk c)) (hc:g = true→0 ≤ c):Ev P K F L g (.binOp .shr t x y t') ty (U64 (dR m c.toNat)):=fun hg =>
 Ev.bin hx hy (fun w=>ef w) (fun w=>by
  unfold U64;rw [pz (hc hg),bU]
  congr 2
  show (m.toNat:Int).fdiv (2 ^ (min c.toNat 64)) = _;rw [Int.fdiv_eq_ediv_of_nonneg _ (Int.le_of_lt (Int.pow_pos (by decide)))];have e:((m.toNat / 2 ^ c.toNat:Nat):Int) = (m.toNat:Int) / 2 ^ c.toNat:=by simp
  rw [e]
  rcases Nat.le_total c.toNat 64 with h | h
  ·rw [Nat.min_eq_left h]
  ·rw [Nat.min_eq_right h];have h1:=m.toNat_lt;have e3:((2:Int) ^ 64) = 18446744073709551616:=by decide
   have h2:(2:Int) ^ 64 ≤ 2 ^ c.toNat:=by
    have:=Nat.pow_le_pow_right (n:=2) (by decide) h
    exact_mod_cast this
   rw [Int.ediv_eq_zero_of_lt (by omega) (by omega),Int.ediv_eq_zero_of_lt (by omega) (by omega)]) df eW hg
theorem Ev.wL {m n:UInt64} (hx:Opd F g x (U64 m)) (hy:Opd F g y (U64 n)) (hn:g = true→n ≠ 0):Ev P K F L g (.binOp .rem t x y t') ty (U64 (m % n)):=fun hg =>
 Ev.fa hx hy (fun w=>by
  have h0:(n.toNat:Int) ≠ 0:=fun h=>hn hg (by apply UInt64.toNat_inj.1; simpa using h)
  rw [r6 (.inr rfl) h0];simp only [U64,UInt64.toNat_mod];have e:(m.toNat:Int).tmod n.toNat = ((m.toNat % n.toNat:Nat):Int):=by rw [Int.tmod_eq_emod_of_nonneg (by omega)]; simp
  rw [e]) hg
theorem Ev.jr {m n:UInt64} (hx:Opd F g x (U64 m)) (hy:Opd F g y (U64 n)):Ev P K F L g (.binOp .eql t x y t') ty (.bool (decide (m = n))) :=
 Ev.fa hx hy (dg (by unfold Op.intCmp; show pure (Value.bool (decide ((m.toNat:Int) = n.toNat))) = _; simp only [cast_u64]) (.inl rfl))
theorem Ev.neq_u64 {m n:UInt64} (hx:Opd F g x (U64 m)) (hy:Opd F g y (U64 n)):Ev P K F L g (.binOp .neq t x y t') ty (.bool (decide (¬ m = n))) :=
 Ev.fa hx hy (dg (by unfold Op.intCmp; show pure (Value.bool (!decide ((m.toNat:Int) = n.toNat))) = _; simp only [cast_u64,decide_not]) (.inr (.inl rfl)))
theorem Ev.geq_u64 {m n:UInt64} (hx:Opd F g x (U64 m)) (hy:Opd F g y (U64 n)):Ev P K F L g (.binOp .geq t x y t') ty (.bool (decide (n ≤ m))) :=
 Ev.fa hx hy (dg (by unfold Op.intCmp; simp only [UInt64.le_iff_toNat_le,Int.ofNat_le,ge_iff_le]) (.inr (.inr (.inr (.inr (.inr rfl))))))
theorem Ev.conv_u8_u32 {m:UInt8} (ht:P.underlying t' = some (.int .u32)) (ht0:P.underlying t = some (.int .u8)) (hx:Opd F g x (U8 m)):Ev P K F L g (.convert t t' x) ty (U32 (m.toUInt32)) :=
 Ev.conv ht ht0 hx (by
  have h:=m.toNat_lt;rw [wrap_u32]; simp only [U32,UInt8.toNat_toUInt32]; congr 1; omega)
theorem Ev.jG {m:UInt8} (ht:P.underlying t' = some (.int .u64)) (ht0:P.underlying t = some (.int .u8)) (hx:Opd F g x (U8 m)):Ev P K F L g (.convert t t' x) ty (U64 (m.toUInt64)) :=
 Ev.conv ht ht0 hx (by
  have h:=m.toNat_lt;rw [wrap_u64]; simp only [U64,UInt8.toNat_toUInt64]; congr 1; omega)
theorem Ev.conv_i_u8 {m:Int} (ht:P.underlying t' = some (.int .u8)) (ht0:P.underlying t = some (.int .i64)) (hx:Opd F g x (I m)):Ev P K F L g (.convert t t' x) ty (U8 (UInt8.ofInt m)) :=
 Ev.conv ht ht0 hx (by rw [wrap_u8]; unfold U8; congr 1; simp [UInt8.ofInt]; omega)
theorem Ev.rI {m:UInt16} (ht:P.underlying t' = some (.int .u8)) (ht0:P.underlying t = some (.int .u16)) (hx:Opd F g x (U16 m)):Ev P K F L g (.convert t t' x) ty (U8 (m.toUInt8)) :=
 Ev.conv ht ht0 hx (by
  have h:=m.toNat_lt;rw [wrap_u8]; simp only [U8,UInt16.toNat_toUInt8]; congr 1)
theorem Ev.xB {m:UInt16} (ht:P.underlying t' = some (.int .u32)) (ht0:P.underlying t = some (.int .u16)) (hx:Opd F g x (U16 m)):Ev P K F L g (.convert t t' x) ty (U32 (m.toUInt32)) :=
 Ev.conv ht ht0 hx (by
  have h:=m.toNat_lt;rw [wrap_u32]; simp only [U32,UInt16.toNat_toUInt32]; congr 1; omega)
theorem Ev.qf {m:UInt16} (ht:P.underlying t' = some (.int .u64)) (ht0:P.underlying t = some (.int .u16)) (hx:Opd F g x (U16 m)):Ev P K F L g (.convert t t' x) ty (U64 (m.toUInt64)) :=
 Ev.conv ht ht0 hx (by
  have h:=m.toNat_lt;rw [wrap_u64]; simp only [U64,UInt16.toNat_toUInt64]; congr 1; omega)
theorem Ev.jg {m:Int} (ht:P.underlying t' = some (.int .u16)) (ht0:P.underlying t = some (.int .i64)) (hx:Opd F g x (I m)):Ev P K F L g (.convert t t' x) ty (U16 (UInt16.ofInt m)) :=
 Ev.conv ht ht0 hx (by rw [wrap_u16]; unfold U16; congr 1; simp [UInt16.ofInt]; omega)
theorem Ev.conv_u32_u8 {m:UInt32} (ht:P.underlying t' = some (.int .u8)) (ht0:P.underlying t = some (.int .u32)) (hx:Opd F g x (U32 m)):Ev P K F L g (.convert t t' x) ty (U8 (m.toUInt8)) :=
 Ev.conv ht ht0 hx (by
  have h:=m.toNat_lt;rw [wrap_u8]; simp only [U8,UInt32.toNat_toUInt8]; congr 1)
theorem Ev.xA {m:UInt32} (ht:P.underlying t' = some (.int .u16)) (ht0:P.underlying t = some (.int .u32)) (hx:Opd F g x (U32 m)):Ev P K F L g (.convert t t' x) ty (U16 (m.toUInt16)) :=
 Ev.conv ht ht0 hx (by
  have h:=m.toNat_lt;rw [wrap_u16]; simp only [U16,UInt32.toNat_toUInt16]; congr 1)
theorem Ev.qe {m:UInt32} (ht:P.underlying t' = some (.int .u64)) (ht0:P.underlying t = some (.int .u32)) (hx:Opd F g x (U32 m)):Ev P K F L g (.convert t t' x) ty (U64 (m.toUInt64)) :=
 Ev.conv ht ht0 hx (by
  have h:=m.toNat_lt;rw [wrap_u64]; simp only [U64,UInt32.toNat_toUInt64]; congr 1; omega)
theorem Ev.uj {m:Int} (ht:P.underlying t' = some (.int .u32)) (ht0:P.underlying t = some (.int .i64)) (hx:Opd F g x (I m)):Ev P K F L g (.convert t t' x) ty (U32 (UInt32.ofInt m)) :=
 Ev.conv ht ht0 hx (by rw [wrap_u32]; unfold U32; congr 1; simp [UInt32.ofInt]; omega)
theorem Ev.conv_u64_u8 {m:UInt64} (ht:P.underlying t' = some (.int .u8)) (ht0:P.underlying t = some (.int .u64)) (hx:Opd F g x (U64 m)):Ev P K F L g (.convert t t' x) ty (U8 (m.toUInt8)) :=
 Ev.conv ht ht0 hx (by
  have h:=m.toNat_lt;rw [wrap_u8]; simp only [U8,UInt64.toNat_toUInt8]; congr 1)
theorem Ev.qd {m:UInt64} (ht:P.underlying t' = some (.int .u16)) (ht0:P.underlying t = some (.int .u64)) (hx:Opd F g x (U64 m)):Ev P K F L g (.convert t t' x) ty (U16 (m.toUInt16)) :=
 Ev.conv ht ht0 hx (by
  have h:=m.toNat_lt;rw [wrap_u16]; simp only [U16,UInt64.toNat_toUInt16]; congr 1)
theorem Ev.xz {m:UInt64} (ht:P.underlying t' = some (.int .u32)) (ht0:P.underlying t = some (.int .u64)) (hx:Opd F g x (U64 m)):Ev P K F L g (.convert t t' x) ty (U32 (m.toUInt32)) :=
 Ev.conv ht ht0 hx (by
  have h:=m.toNat_lt;rw [wrap_u32]; simp only [U32,UInt64.toNat_toUInt32]; congr 1)
theorem Ev.uh {m:UInt64} (ht:P.underlying t' = some (.int .i64)) (ht0:P.underlying t = some (.int .u64)) (hx:Opd F g x (U64 m)) (hm:g = true→m.toNat < 2 ^ 63):Ev P K F L g (.convert t t' x) ty (I (m.toNat:Int)):=fun hg =>
 Ev.conv ht ht0 hx (by have h:=hm hg; rw [wrap_i64 ⟨by omega,by omega⟩]; rfl) hg
theorem Ev.conv_i_u64 {m:Int} (ht:P.underlying t' = some (.int .u64)) (ht0:P.underlying t = some (.int .i64)) (hx:Opd F g x (I m)):Ev P K F L g (.convert t t' x) ty (U64 (UInt64.ofInt m)) :=
 Ev.conv ht ht0 hx (by rw [wrap_u64]; unfold U64; congr 1; simp [UInt64.ofInt]; omega)
end
end Go.Gx
