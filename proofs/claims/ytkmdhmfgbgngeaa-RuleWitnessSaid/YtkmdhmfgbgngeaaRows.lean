/-
  No cell of these rows narrows 'for every input' (looked for: loops, veiled, ifaces, maps, wideKeys, modest, calm, conditions, laid).
  DERIVED. THE GIVEN ROWS OF THIS SEAT. 8 by the template 'for every input the law returns true; each argument reads behind the call as it read before'; 0 by the template 'total and deterministic' (their statements: YtkmdhmfgbgngeaaTotals.lean).
  GIVEN WITH THE SEED: the statements are not yours to turn. If you find one false, say at which input.
  Laid BY PROGRAM, IN A SANDBOX (cutbox-rows.mjs): the forced cells as the released guide's own fill.sh prints them over the translation fef145319c84478a… (all of the seat's roots in one cut). By AI agents, Wed Nov 11 2026. No macro, syntax, notation, axiom, sorry.
-/
import Derived.Test.YtkmdhmfgbgngeaaChecked
import GoSem.Claim
import GoSem.ClaimJoined
import GoSem.ClaimMapViews
import Derived.JoinedTies
import Derived.KernelRfl
namespace Go.Proofs.Ytkmdhmfgbgngeaa
/- THE CELL 'sum', in the pinned program and in every row, IS THE sha256 OF THE DUMP (.gsa) THAT YtkmdhmfgbgngeaaProg.lean LOADS. Nothing in Lean hashes anything: it is a label: what it is worth is what the hold of that sum in a sandbox is worth. -/
noncomputable def Try.pinned : Pinned := { name := "ytkmdhmfgbgngeaa", sum := "fef145319c84478a7fc21423effd3366326fcbb11612961643646009bdfd6cc4", checked := Try.checked }
namespace Rows
def none {H : Type} : Left H := { results := [], args := [] }

/-- 'patchbaylaw19.RuleChecks': WHATEVER THE INPUT: true; the input reads as it did. -/
def ruleChecksSpec : ChangeSpec := { name := "ruleChecks", fn := fun _ => fun
  | [d1, d2, d3] => { results := [.lit (.bool true)], args := [d1, d2, d3] }
  | _ => none }
def ruleChecksRow : OpenClaim := { program := "ytkmdhmfgbgngeaa", sum := "fef145319c84478a7fc21423effd3366326fcbb11612961643646009bdfd6cc4", func := "patchbay/patchbaylaw19.RuleChecks", spec := "ruleChecks", unfollowed := true, recurses := true, apart := false }
def RuleChecksSaid : Prop := ruleChecksRow.holds Try.pinned (OpenSpec.ofChange ruleChecksSpec)

/-- ITS FALSE NEIGHBOUR: 'it returns false'. Refute it at one input. -/
def ruleChecksWrong : ChangeSpec := { name := "ruleChecks", fn := fun _ => fun
  | [d1, d2, d3] => { results := [.lit (.bool false)], args := [d1, d2, d3] }
  | _ => none }
def RuleChecksWrongFalsely : Prop := ruleChecksRow.holds Try.pinned (OpenSpec.ofChange ruleChecksWrong)

/-- 'patchbaylaw19.RuleOrder': WHATEVER THE INPUT: true; the input reads as it did. -/
def ruleOrderSpec : ChangeSpec := { name := "ruleOrder", fn := fun _ => fun
  | [d1, d2] => { results := [.lit (.bool true)], args := [d1, d2] }
  | _ => none }
def ruleOrderRow : OpenClaim := { program := "ytkmdhmfgbgngeaa", sum := "fef145319c84478a7fc21423effd3366326fcbb11612961643646009bdfd6cc4", func := "patchbay/patchbaylaw19.RuleOrder", spec := "ruleOrder", unfollowed := true, recurses := true, apart := false }
def RuleOrderSaid : Prop := ruleOrderRow.holds Try.pinned (OpenSpec.ofChange ruleOrderSpec)

/-- ITS FALSE NEIGHBOUR: 'it returns false'. Refute it at one input. -/
def ruleOrderWrong : ChangeSpec := { name := "ruleOrder", fn := fun _ => fun
  | [d1, d2] => { results := [.lit (.bool false)], args := [d1, d2] }
  | _ => none }
def RuleOrderWrongFalsely : Prop := ruleOrderRow.holds Try.pinned (OpenSpec.ofChange ruleOrderWrong)

/-- 'patchbaylaw19.RuleFirst': WHATEVER THE INPUT: true; the input reads as it did. -/
def ruleFirstSpec : ChangeSpec := { name := "ruleFirst", fn := fun _ => fun
  | [d1, d2] => { results := [.lit (.bool true)], args := [d1, d2] }
  | _ => none }
def ruleFirstRow : OpenClaim := { program := "ytkmdhmfgbgngeaa", sum := "fef145319c84478a7fc21423effd3366326fcbb11612961643646009bdfd6cc4", func := "patchbay/patchbaylaw19.RuleFirst", spec := "ruleFirst", unfollowed := true, recurses := true, apart := false }
def RuleFirstSaid : Prop := ruleFirstRow.holds Try.pinned (OpenSpec.ofChange ruleFirstSpec)

/-- ITS FALSE NEIGHBOUR: 'it returns false'. Refute it at one input. -/
def ruleFirstWrong : ChangeSpec := { name := "ruleFirst", fn := fun _ => fun
  | [d1, d2] => { results := [.lit (.bool false)], args := [d1, d2] }
  | _ => none }
def RuleFirstWrongFalsely : Prop := ruleFirstRow.holds Try.pinned (OpenSpec.ofChange ruleFirstWrong)

/-- 'patchbaylaw19.RuleMany': WHATEVER THE INPUT: true; the input reads as it did. -/
def ruleManySpec : ChangeSpec := { name := "ruleMany", fn := fun _ => fun
  | [d1, d2] => { results := [.lit (.bool true)], args := [d1, d2] }
  | _ => none }
def ruleManyRow : OpenClaim := { program := "ytkmdhmfgbgngeaa", sum := "fef145319c84478a7fc21423effd3366326fcbb11612961643646009bdfd6cc4", func := "patchbay/patchbaylaw19.RuleMany", spec := "ruleMany", unfollowed := true, recurses := true, apart := false }
def RuleManySaid : Prop := ruleManyRow.holds Try.pinned (OpenSpec.ofChange ruleManySpec)

/-- ITS FALSE NEIGHBOUR: 'it returns false'. Refute it at one input. -/
def ruleManyWrong : ChangeSpec := { name := "ruleMany", fn := fun _ => fun
  | [d1, d2] => { results := [.lit (.bool false)], args := [d1, d2] }
  | _ => none }
def RuleManyWrongFalsely : Prop := ruleManyRow.holds Try.pinned (OpenSpec.ofChange ruleManyWrong)

/-- 'patchbaylaw19.RulePairs': WHATEVER THE INPUT: true; the input reads as it did. -/
def rulePairsSpec : ChangeSpec := { name := "rulePairs", fn := fun _ => fun
  | [d1, d2] => { results := [.lit (.bool true)], args := [d1, d2] }
  | _ => none }
def rulePairsRow : OpenClaim := { program := "ytkmdhmfgbgngeaa", sum := "fef145319c84478a7fc21423effd3366326fcbb11612961643646009bdfd6cc4", func := "patchbay/patchbaylaw19.RulePairs", spec := "rulePairs", unfollowed := true, recurses := true, apart := false }
def RulePairsSaid : Prop := rulePairsRow.holds Try.pinned (OpenSpec.ofChange rulePairsSpec)

/-- ITS FALSE NEIGHBOUR: 'it returns false'. Refute it at one input. -/
def rulePairsWrong : ChangeSpec := { name := "rulePairs", fn := fun _ => fun
  | [d1, d2] => { results := [.lit (.bool false)], args := [d1, d2] }
  | _ => none }
def RulePairsWrongFalsely : Prop := rulePairsRow.holds Try.pinned (OpenSpec.ofChange rulePairsWrong)

/-- 'patchbaylaw19.RuleSets': WHATEVER THE INPUT: true; the input reads as it did. -/
def ruleSetsSpec : ChangeSpec := { name := "ruleSets", fn := fun _ => fun
  | [d1, d2, d3] => { results := [.lit (.bool true)], args := [d1, d2, d3] }
  | _ => none }
def ruleSetsRow : OpenClaim := { program := "ytkmdhmfgbgngeaa", sum := "fef145319c84478a7fc21423effd3366326fcbb11612961643646009bdfd6cc4", func := "patchbay/patchbaylaw19.RuleSets", spec := "ruleSets", unfollowed := true, recurses := true, apart := false }
def RuleSetsSaid : Prop := ruleSetsRow.holds Try.pinned (OpenSpec.ofChange ruleSetsSpec)

/-- ITS FALSE NEIGHBOUR: 'it returns false'. Refute it at one input. -/
def ruleSetsWrong : ChangeSpec := { name := "ruleSets", fn := fun _ => fun
  | [d1, d2, d3] => { results := [.lit (.bool false)], args := [d1, d2, d3] }
  | _ => none }
def RuleSetsWrongFalsely : Prop := ruleSetsRow.holds Try.pinned (OpenSpec.ofChange ruleSetsWrong)

/-- 'patchbaylaw19.RuleWitness': WHATEVER THE INPUT: true; the input reads as it did. -/
def ruleWitnessSpec : ChangeSpec := { name := "ruleWitness", fn := fun _ => fun
  | [d1, d2] => { results := [.lit (.bool true)], args := [d1, d2] }
  | _ => none }
def ruleWitnessRow : OpenClaim := { program := "ytkmdhmfgbgngeaa", sum := "fef145319c84478a7fc21423effd3366326fcbb11612961643646009bdfd6cc4", func := "patchbay/patchbaylaw19.RuleWitness", spec := "ruleWitness", unfollowed := true, recurses := true, apart := false }
def RuleWitnessSaid : Prop := ruleWitnessRow.holds Try.pinned (OpenSpec.ofChange ruleWitnessSpec)

/-- ITS FALSE NEIGHBOUR: 'it returns false'. Refute it at one input. -/
def ruleWitnessWrong : ChangeSpec := { name := "ruleWitness", fn := fun _ => fun
  | [d1, d2] => { results := [.lit (.bool false)], args := [d1, d2] }
  | _ => none }
def RuleWitnessWrongFalsely : Prop := ruleWitnessRow.holds Try.pinned (OpenSpec.ofChange ruleWitnessWrong)

/-- 'patchbaylaw19.RuleKnown': WHATEVER THE INPUT: true; the input reads as it did. -/
def ruleKnownSpec : ChangeSpec := { name := "ruleKnown", fn := fun _ => fun
  | [] => { results := [.lit (.bool true)], args := [] }
  | _ => none }
def ruleKnownRow : OpenClaim := { program := "ytkmdhmfgbgngeaa", sum := "fef145319c84478a7fc21423effd3366326fcbb11612961643646009bdfd6cc4", func := "patchbay/patchbaylaw19.RuleKnown", spec := "ruleKnown", unfollowed := true, recurses := true, apart := false }
def RuleKnownSaid : Prop := ruleKnownRow.holds Try.pinned (OpenSpec.ofChange ruleKnownSpec)

/-- ITS FALSE NEIGHBOUR: 'it returns false'. Refute it at one input. -/
def ruleKnownWrong : ChangeSpec := { name := "ruleKnown", fn := fun _ => fun
  | [] => { results := [.lit (.bool false)], args := [] }
  | _ => none }
def RuleKnownWrongFalsely : Prop := ruleKnownRow.holds Try.pinned (OpenSpec.ofChange ruleKnownWrong)

/- THE SECOND FORM. 'bulk': how many values and letters a reading holds, each counted each time it is reached (what is shared counts as often as it is met; a slice's spare places count too). A statement '..UptoSaid' is the law's where the arguments, and the package variables that the reading takes, are together of bulk at most 1048576: NARROWER than '..Said'. Prove '..Said' where nothing that the law and all that it calls make is longer than what came in: it says more and counts as full. Else prove '..UptoSaid'. A law counts once. -/
mutual
def uptoBulk {H : Type} : DataW H → Nat
  | .lit (.string bytes) => bytes.length + 1
  | .lit _ => 1
  | .nil => 1
  | .ptr d => uptoBulk d + 1
  | .slice elems spare => uptoBulkAll elems + uptoBulkAll spare + 1
  | .agg parts => uptoBulkAll parts + 1
  | .iface _ d => uptoBulk d + 1
  | .map entries => uptoBulkEntries entries + 1
  | .held _ => 1
def uptoBulkAll {H : Type} : List (DataW H) → Nat
  | [] => 0
  | d :: r => uptoBulk d + uptoBulkAll r
def uptoBulkEntries {H : Type} : List (Lit × DataW H) → Nat
  | [] => 0
  | x :: r => uptoBulkEntry x + uptoBulkEntries r
def uptoBulkEntry {H : Type} : Lit × DataW H → Nat
  | (.string bytes, d) => bytes.length + uptoBulk d + 1
  | (_, d) => uptoBulk d + 1
 end
def uptoSmall : (H : Type) → List (DataW H) → Bool := fun _ ds => decide (uptoBulkAll ds ≤ 1048576)
def OpenSpec.upto (s : _root_.Go.ChangeSpec) : _root_.Go.OpenSpec := { _root_.Go.OpenSpec.ofChange s with cond := some uptoSmall }

/-- 'patchbaylaw19.RuleChecks', WHERE WHAT IT READS IS OF BULK AT MOST 1048576: true; the input reads as it did. -/
def ruleChecksUptoRow : OpenClaim := { program := "ytkmdhmfgbgngeaa", sum := "fef145319c84478a7fc21423effd3366326fcbb11612961643646009bdfd6cc4", func := "patchbay/patchbaylaw19.RuleChecks", spec := "ruleChecks", unfollowed := true, recurses := true, apart := false, narrowed := true }
def RuleChecksUptoSaid : Prop := ruleChecksUptoRow.holds Try.pinned (OpenSpec.upto ruleChecksSpec)

/-- 'patchbaylaw19.RuleOrder', WHERE WHAT IT READS IS OF BULK AT MOST 1048576: true; the input reads as it did. -/
def ruleOrderUptoRow : OpenClaim := { program := "ytkmdhmfgbgngeaa", sum := "fef145319c84478a7fc21423effd3366326fcbb11612961643646009bdfd6cc4", func := "patchbay/patchbaylaw19.RuleOrder", spec := "ruleOrder", unfollowed := true, recurses := true, apart := false, narrowed := true }
def RuleOrderUptoSaid : Prop := ruleOrderUptoRow.holds Try.pinned (OpenSpec.upto ruleOrderSpec)

/-- 'patchbaylaw19.RuleFirst', WHERE WHAT IT READS IS OF BULK AT MOST 1048576: true; the input reads as it did. -/
def ruleFirstUptoRow : OpenClaim := { program := "ytkmdhmfgbgngeaa", sum := "fef145319c84478a7fc21423effd3366326fcbb11612961643646009bdfd6cc4", func := "patchbay/patchbaylaw19.RuleFirst", spec := "ruleFirst", unfollowed := true, recurses := true, apart := false, narrowed := true }
def RuleFirstUptoSaid : Prop := ruleFirstUptoRow.holds Try.pinned (OpenSpec.upto ruleFirstSpec)

/-- 'patchbaylaw19.RuleMany', WHERE WHAT IT READS IS OF BULK AT MOST 1048576: true; the input reads as it did. -/
def ruleManyUptoRow : OpenClaim := { program := "ytkmdhmfgbgngeaa", sum := "fef145319c84478a7fc21423effd3366326fcbb11612961643646009bdfd6cc4", func := "patchbay/patchbaylaw19.RuleMany", spec := "ruleMany", unfollowed := true, recurses := true, apart := false, narrowed := true }
def RuleManyUptoSaid : Prop := ruleManyUptoRow.holds Try.pinned (OpenSpec.upto ruleManySpec)

/-- 'patchbaylaw19.RulePairs', WHERE WHAT IT READS IS OF BULK AT MOST 1048576: true; the input reads as it did. -/
def rulePairsUptoRow : OpenClaim := { program := "ytkmdhmfgbgngeaa", sum := "fef145319c84478a7fc21423effd3366326fcbb11612961643646009bdfd6cc4", func := "patchbay/patchbaylaw19.RulePairs", spec := "rulePairs", unfollowed := true, recurses := true, apart := false, narrowed := true }
def RulePairsUptoSaid : Prop := rulePairsUptoRow.holds Try.pinned (OpenSpec.upto rulePairsSpec)

/-- 'patchbaylaw19.RuleSets', WHERE WHAT IT READS IS OF BULK AT MOST 1048576: true; the input reads as it did. -/
def ruleSetsUptoRow : OpenClaim := { program := "ytkmdhmfgbgngeaa", sum := "fef145319c84478a7fc21423effd3366326fcbb11612961643646009bdfd6cc4", func := "patchbay/patchbaylaw19.RuleSets", spec := "ruleSets", unfollowed := true, recurses := true, apart := false, narrowed := true }
def RuleSetsUptoSaid : Prop := ruleSetsUptoRow.holds Try.pinned (OpenSpec.upto ruleSetsSpec)

/-- 'patchbaylaw19.RuleWitness', WHERE WHAT IT READS IS OF BULK AT MOST 1048576: true; the input reads as it did. -/
def ruleWitnessUptoRow : OpenClaim := { program := "ytkmdhmfgbgngeaa", sum := "fef145319c84478a7fc21423effd3366326fcbb11612961643646009bdfd6cc4", func := "patchbay/patchbaylaw19.RuleWitness", spec := "ruleWitness", unfollowed := true, recurses := true, apart := false, narrowed := true }
def RuleWitnessUptoSaid : Prop := ruleWitnessUptoRow.holds Try.pinned (OpenSpec.upto ruleWitnessSpec)

/-- 'patchbaylaw19.RuleKnown', WHERE WHAT IT READS IS OF BULK AT MOST 1048576: true; the input reads as it did. -/
def ruleKnownUptoRow : OpenClaim := { program := "ytkmdhmfgbgngeaa", sum := "fef145319c84478a7fc21423effd3366326fcbb11612961643646009bdfd6cc4", func := "patchbay/patchbaylaw19.RuleKnown", spec := "ruleKnown", unfollowed := true, recurses := true, apart := false, narrowed := true }
def RuleKnownUptoSaid : Prop := ruleKnownUptoRow.holds Try.pinned (OpenSpec.upto ruleKnownSpec)

end Rows
end Go.Proofs.Ytkmdhmfgbgngeaa
