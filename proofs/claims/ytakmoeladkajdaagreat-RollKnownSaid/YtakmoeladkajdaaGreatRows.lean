/-
  No cell of these rows narrows 'for every input' (looked for: loops, veiled, ifaces, maps, wideKeys, modest, calm, conditions, laid).
  DERIVED. THE GIVEN ROWS OF THIS SEAT. 3 by the template 'for every input the law returns true; each argument reads behind the call as it read before'; 0 by the template 'total and deterministic' (their statements: YtakmoeladkajdaaGreatTotals.lean).
  GIVEN WITH THE SEED: the statements are not yours to turn. If you find one false, say at which input.
  Laid BY PROGRAM, IN A SANDBOX (cutbox-rows.mjs): the forced cells as the released guide's own fill.sh prints them over the translation 8e40114014fe4711… (all of the seat's roots in one cut). By AI agents, Wed Nov 11 2026. No macro, syntax, notation, axiom, sorry.
-/
import Derived.Test.YtakmoeladkajdaaGreatChecked
import GoSem.Claim
import GoSem.ClaimJoined
import GoSem.ClaimMapViews
import Derived.JoinedTies
import Derived.KernelRfl
namespace Go.Proofs.YtakmoeladkajdaaGreat
/- THE CELL 'sum', in the pinned program and in every row, IS THE sha256 OF THE DUMP (.gsa) THAT YtakmoeladkajdaaGreatProg.lean LOADS. Nothing in Lean hashes anything: it is a label: what it is worth is what the hold of that sum in a sandbox is worth. -/
noncomputable def Tryz.pinned : Pinned := { name := "ytakmoeladkajdaagreat", sum := "8e40114014fe4711afa9ce08ad44380c959ef4060be31cc34a007a7ac9e13f32", checked := Tryz.checked }
namespace Rows
def none {H : Type} : Left H := { results := [], args := [] }

/-- 'patchbaylaw31.RollNews': WHATEVER THE INPUT: true; the input reads as it did. -/
def rollNewsSpec : ChangeSpec := { name := "rollNews", fn := fun _ => fun
  | [d] => { results := [.lit (.bool true)], args := [d] }
  | _ => none }
def rollNewsRow : OpenClaim := { program := "ytakmoeladkajdaagreat", sum := "8e40114014fe4711afa9ce08ad44380c959ef4060be31cc34a007a7ac9e13f32", func := "patchbay/patchbaylaw31.RollNews", spec := "rollNews", inPlace := ["sync/atomic.LoadUint64", "sync/atomic.CompareAndSwapUint64"], unfollowed := true, recurses := true, plainKeys := false, apart := false }
def RollNewsSaid : Prop := rollNewsRow.holds Tryz.pinned (OpenSpec.ofChange rollNewsSpec)

/-- ITS FALSE NEIGHBOUR: 'it returns false'. Refute it at one input. -/
def rollNewsWrong : ChangeSpec := { name := "rollNews", fn := fun _ => fun
  | [d] => { results := [.lit (.bool false)], args := [d] }
  | _ => none }
def RollNewsWrongFalsely : Prop := rollNewsRow.holds Tryz.pinned (OpenSpec.ofChange rollNewsWrong)

/-- 'patchbaylaw31.RollParts': WHATEVER THE INPUT: true; the input reads as it did. -/
def rollPartsSpec : ChangeSpec := { name := "rollParts", fn := fun _ => fun
  | [d] => { results := [.lit (.bool true)], args := [d] }
  | _ => none }
def rollPartsRow : OpenClaim := { program := "ytakmoeladkajdaagreat", sum := "8e40114014fe4711afa9ce08ad44380c959ef4060be31cc34a007a7ac9e13f32", func := "patchbay/patchbaylaw31.RollParts", spec := "rollParts", inPlace := ["sync/atomic.LoadUint64", "sync/atomic.CompareAndSwapUint64"], unfollowed := true, recurses := true, plainKeys := false, apart := false }
def RollPartsSaid : Prop := rollPartsRow.holds Tryz.pinned (OpenSpec.ofChange rollPartsSpec)

/-- ITS FALSE NEIGHBOUR: 'it returns false'. Refute it at one input. -/
def rollPartsWrong : ChangeSpec := { name := "rollParts", fn := fun _ => fun
  | [d] => { results := [.lit (.bool false)], args := [d] }
  | _ => none }
def RollPartsWrongFalsely : Prop := rollPartsRow.holds Tryz.pinned (OpenSpec.ofChange rollPartsWrong)

/-- 'patchbaylaw31.RollKnown': WHATEVER THE INPUT: true; the input reads as it did. -/
def rollKnownSpec : ChangeSpec := { name := "rollKnown", fn := fun _ => fun
  | [] => { results := [.lit (.bool true)], args := [] }
  | _ => none }
def rollKnownRow : OpenClaim := { program := "ytakmoeladkajdaagreat", sum := "8e40114014fe4711afa9ce08ad44380c959ef4060be31cc34a007a7ac9e13f32", func := "patchbay/patchbaylaw31.RollKnown", spec := "rollKnown", inPlace := ["sync/atomic.LoadUint64", "sync/atomic.CompareAndSwapUint64"], unfollowed := true, recurses := true, plainKeys := false, apart := false }
def RollKnownSaid : Prop := rollKnownRow.holds Tryz.pinned (OpenSpec.ofChange rollKnownSpec)

/-- ITS FALSE NEIGHBOUR: 'it returns false'. Refute it at one input. -/
def rollKnownWrong : ChangeSpec := { name := "rollKnown", fn := fun _ => fun
  | [] => { results := [.lit (.bool false)], args := [] }
  | _ => none }
def RollKnownWrongFalsely : Prop := rollKnownRow.holds Tryz.pinned (OpenSpec.ofChange rollKnownWrong)

/- THE SECOND FORM. 'bulk': how many values and letters a reading holds, each counted each time it is reached (what is shared counts as often as it is met; a slice's spare places count too). A statement '..UptoSaid' is the law's where the arguments, and the package variables that the reading takes, are together of bulk at most 1048576: NARROWER than '..Said'. Prove '..Said' where nothing that the law and all that it calls make is longer than what came in: it says more and counts as full. Else prove '..UptoSaid'. A law counts once. -/
mutual
def uptoBulk {H : Type} : DataW H → Nat
  | .lit (.string bytes) => bytes.length + 1
  | .lit _ => 1
  | .nil => 1
  | .ptr d => uptoBulk d + 1
  | .slice elems spare => uptoBulkAll elems + uptoBulkAll spare + 1
  | .agg parts => uptoBulkAll parts + 1
  | .iface _ d => uptoBulk d + 1
  | .map entries => uptoBulkEntries entries + 1
  | .held _ => 1
def uptoBulkAll {H : Type} : List (DataW H) → Nat
  | [] => 0
  | d :: r => uptoBulk d + uptoBulkAll r
def uptoBulkEntries {H : Type} : List (Lit × DataW H) → Nat
  | [] => 0
  | x :: r => uptoBulkEntry x + uptoBulkEntries r
def uptoBulkEntry {H : Type} : Lit × DataW H → Nat
  | (.string bytes, d) => bytes.length + uptoBulk d + 1
  | (_, d) => uptoBulk d + 1
 end
def uptoSmall : (H : Type) → List (DataW H) → Bool := fun _ ds => decide (uptoBulkAll ds ≤ 1048576)
def OpenSpec.upto (s : _root_.Go.ChangeSpec) : _root_.Go.OpenSpec := { _root_.Go.OpenSpec.ofChange s with cond := some uptoSmall }

/-- 'patchbaylaw31.RollNews', WHERE WHAT IT READS IS OF BULK AT MOST 1048576: true; the input reads as it did. -/
def rollNewsUptoRow : OpenClaim := { program := "ytakmoeladkajdaagreat", sum := "8e40114014fe4711afa9ce08ad44380c959ef4060be31cc34a007a7ac9e13f32", func := "patchbay/patchbaylaw31.RollNews", spec := "rollNews", inPlace := ["sync/atomic.LoadUint64", "sync/atomic.CompareAndSwapUint64"], unfollowed := true, recurses := true, plainKeys := false, apart := false, narrowed := true }
def RollNewsUptoSaid : Prop := rollNewsUptoRow.holds Tryz.pinned (OpenSpec.upto rollNewsSpec)

/-- 'patchbaylaw31.RollParts', WHERE WHAT IT READS IS OF BULK AT MOST 1048576: true; the input reads as it did. -/
def rollPartsUptoRow : OpenClaim := { program := "ytakmoeladkajdaagreat", sum := "8e40114014fe4711afa9ce08ad44380c959ef4060be31cc34a007a7ac9e13f32", func := "patchbay/patchbaylaw31.RollParts", spec := "rollParts", inPlace := ["sync/atomic.LoadUint64", "sync/atomic.CompareAndSwapUint64"], unfollowed := true, recurses := true, plainKeys := false, apart := false, narrowed := true }
def RollPartsUptoSaid : Prop := rollPartsUptoRow.holds Tryz.pinned (OpenSpec.upto rollPartsSpec)

/-- 'patchbaylaw31.RollKnown', WHERE WHAT IT READS IS OF BULK AT MOST 1048576: true; the input reads as it did. -/
def rollKnownUptoRow : OpenClaim := { program := "ytakmoeladkajdaagreat", sum := "8e40114014fe4711afa9ce08ad44380c959ef4060be31cc34a007a7ac9e13f32", func := "patchbay/patchbaylaw31.RollKnown", spec := "rollKnown", inPlace := ["sync/atomic.LoadUint64", "sync/atomic.CompareAndSwapUint64"], unfollowed := true, recurses := true, plainKeys := false, apart := false, narrowed := true }
def RollKnownUptoSaid : Prop := rollKnownUptoRow.holds Tryz.pinned (OpenSpec.upto rollKnownSpec)

end Rows
end Go.Proofs.YtakmoeladkajdaaGreat
