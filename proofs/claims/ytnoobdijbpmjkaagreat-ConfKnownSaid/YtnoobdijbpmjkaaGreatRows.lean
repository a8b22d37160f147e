/-
  No cell of these rows narrows 'for every input' (looked for: loops, veiled, ifaces, maps, wideKeys, modest, calm, conditions, laid).
  DERIVED. THE GIVEN ROWS OF THIS SEAT. 7 by the template 'for every input the law returns true; each argument reads behind the call as it read before'; 0 by the template 'total and deterministic' (their statements: YtnoobdijbpmjkaaGreatTotals.lean).
  GIVEN WITH THE SEED: the statements are not yours to turn. If you find one false, say at which input.
  Laid BY PROGRAM, IN A SANDBOX (cutbox-rows.mjs): the forced cells as the released guide's own fill.sh prints them over the translation a7a075db98af0dca… (all of the seat's roots in one cut). By AI agents, Wed Nov 11 2026. No macro, syntax, notation, axiom, sorry.
-/
import Derived.Test.YtnoobdijbpmjkaaGreatChecked
import GoSem.Claim
import GoSem.ClaimJoined
import GoSem.ClaimMapViews
import Derived.JoinedTies
import Derived.KernelRfl
namespace Go.Proofs.YtnoobdijbpmjkaaGreat
/- THE CELL 'sum', in the pinned program and in every row, IS THE sha256 OF THE DUMP (.gsa) THAT YtnoobdijbpmjkaaGreatProg.lean LOADS. Nothing in Lean hashes anything: it is a label: what it is worth is what the hold of that sum in a sandbox is worth. -/
noncomputable def Tryz.pinned : Pinned := { name := "ytnoobdijbpmjkaagreat", sum := "a7a075db98af0dcae4c5a12f8339d4e3c58f9bb3cf88c771cc789dd4d443ffef", checked := Tryz.checked }
namespace Rows
def none {H : Type} : Left H := { results := [], args := [] }

/-- 'patchbaylaw21.ConfChecks': WHATEVER THE INPUT: true; the input reads as it did. -/
def confChecksSpec : ChangeSpec := { name := "confChecks", fn := fun _ => fun
  | [d] => { results := [.lit (.bool true)], args := [d] }
  | _ => none }
def confChecksRow : OpenClaim := { program := "ytnoobdijbpmjkaagreat", sum := "a7a075db98af0dcae4c5a12f8339d4e3c58f9bb3cf88c771cc789dd4d443ffef", func := "patchbay/patchbaylaw21.ConfChecks", spec := "confChecks", inPlace := ["slices.overlaps[int]"], unfollowed := true, recurses := true, plainKeys := false, apart := false }
def ConfChecksSaid : Prop := confChecksRow.holds Tryz.pinned (OpenSpec.ofChange confChecksSpec)

/-- ITS FALSE NEIGHBOUR: 'it returns false'. Refute it at one input. -/
def confChecksWrong : ChangeSpec := { name := "confChecks", fn := fun _ => fun
  | [d] => { results := [.lit (.bool false)], args := [d] }
  | _ => none }
def ConfChecksWrongFalsely : Prop := confChecksRow.holds Tryz.pinned (OpenSpec.ofChange confChecksWrong)

/-- 'patchbaylaw21.ConfDiffs': WHATEVER THE INPUT: true; the input reads as it did. -/
def confDiffsSpec : ChangeSpec := { name := "confDiffs", fn := fun _ => fun
  | [d1, d2] => { results := [.lit (.bool true)], args := [d1, d2] }
  | _ => none }
def confDiffsRow : OpenClaim := { program := "ytnoobdijbpmjkaagreat", sum := "a7a075db98af0dcae4c5a12f8339d4e3c58f9bb3cf88c771cc789dd4d443ffef", func := "patchbay/patchbaylaw21.ConfDiffs", spec := "confDiffs", inPlace := ["slices.overlaps[int]"], unfollowed := true, recurses := true, plainKeys := false, apart := false }
def ConfDiffsSaid : Prop := confDiffsRow.holds Tryz.pinned (OpenSpec.ofChange confDiffsSpec)

/-- ITS FALSE NEIGHBOUR: 'it returns false'. Refute it at one input. -/
def confDiffsWrong : ChangeSpec := { name := "confDiffs", fn := fun _ => fun
  | [d1, d2] => { results := [.lit (.bool false)], args := [d1, d2] }
  | _ => none }
def ConfDiffsWrongFalsely : Prop := confDiffsRow.holds Tryz.pinned (OpenSpec.ofChange confDiffsWrong)

/-- 'patchbaylaw21.ConfApplies': WHATEVER THE INPUT: true; the input reads as it did. -/
def confAppliesSpec : ChangeSpec := { name := "confApplies", fn := fun _ => fun
  | [d1, d2] => { results := [.lit (.bool true)], args := [d1, d2] }
  | _ => none }
def confAppliesRow : OpenClaim := { program := "ytnoobdijbpmjkaagreat", sum := "a7a075db98af0dcae4c5a12f8339d4e3c58f9bb3cf88c771cc789dd4d443ffef", func := "patchbay/patchbaylaw21.ConfApplies", spec := "confApplies", inPlace := ["slices.overlaps[int]"], unfollowed := true, recurses := true, plainKeys := false, apart := false }
def ConfAppliesSaid : Prop := confAppliesRow.holds Tryz.pinned (OpenSpec.ofChange confAppliesSpec)

/-- ITS FALSE NEIGHBOUR: 'it returns false'. Refute it at one input. -/
def confAppliesWrong : ChangeSpec := { name := "confApplies", fn := fun _ => fun
  | [d1, d2] => { results := [.lit (.bool false)], args := [d1, d2] }
  | _ => none }
def ConfAppliesWrongFalsely : Prop := confAppliesRow.holds Tryz.pinned (OpenSpec.ofChange confAppliesWrong)

/-- 'patchbaylaw21.ConfBack': WHATEVER THE INPUT: true; the input reads as it did. -/
def confBackSpec : ChangeSpec := { name := "confBack", fn := fun _ => fun
  | [d1, d2] => { results := [.lit (.bool true)], args := [d1, d2] }
  | _ => none }
def confBackRow : OpenClaim := { program := "ytnoobdijbpmjkaagreat", sum := "a7a075db98af0dcae4c5a12f8339d4e3c58f9bb3cf88c771cc789dd4d443ffef", func := "patchbay/patchbaylaw21.ConfBack", spec := "confBack", inPlace := ["slices.overlaps[int]"], unfollowed := true, recurses := true, plainKeys := false, apart := false }
def ConfBackSaid : Prop := confBackRow.holds Tryz.pinned (OpenSpec.ofChange confBackSpec)

/-- ITS FALSE NEIGHBOUR: 'it returns false'. Refute it at one input. -/
def confBackWrong : ChangeSpec := { name := "confBack", fn := fun _ => fun
  | [d1, d2] => { results := [.lit (.bool false)], args := [d1, d2] }
  | _ => none }
def ConfBackWrongFalsely : Prop := confBackRow.holds Tryz.pinned (OpenSpec.ofChange confBackWrong)

/-- 'patchbaylaw21.ConfSpares': WHATEVER THE INPUT: true; the input reads as it did. -/
def confSparesSpec : ChangeSpec := { name := "confSpares", fn := fun _ => fun
  | [d] => { results := [.lit (.bool true)], args := [d] }
  | _ => none }
def confSparesRow : OpenClaim := { program := "ytnoobdijbpmjkaagreat", sum := "a7a075db98af0dcae4c5a12f8339d4e3c58f9bb3cf88c771cc789dd4d443ffef", func := "patchbay/patchbaylaw21.ConfSpares", spec := "confSpares", inPlace := ["slices.overlaps[int]"], unfollowed := true, recurses := true, plainKeys := false, apart := false }
def ConfSparesSaid : Prop := confSparesRow.holds Tryz.pinned (OpenSpec.ofChange confSparesSpec)

/-- ITS FALSE NEIGHBOUR: 'it returns false'. Refute it at one input. -/
def confSparesWrong : ChangeSpec := { name := "confSpares", fn := fun _ => fun
  | [d] => { results := [.lit (.bool false)], args := [d] }
  | _ => none }
def ConfSparesWrongFalsely : Prop := confSparesRow.holds Tryz.pinned (OpenSpec.ofChange confSparesWrong)

/-- 'patchbaylaw21.ConfSpared': WHATEVER THE INPUT: true; the input reads as it did. -/
def confSparedSpec : ChangeSpec := { name := "confSpared", fn := fun _ => fun
  | [d] => { results := [.lit (.bool true)], args := [d] }
  | _ => none }
def confSparedRow : OpenClaim := { program := "ytnoobdijbpmjkaagreat", sum := "a7a075db98af0dcae4c5a12f8339d4e3c58f9bb3cf88c771cc789dd4d443ffef", func := "patchbay/patchbaylaw21.ConfSpared", spec := "confSpared", inPlace := ["slices.overlaps[int]"], unfollowed := true, recurses := true, plainKeys := false, apart := false }
def ConfSparedSaid : Prop := confSparedRow.holds Tryz.pinned (OpenSpec.ofChange confSparedSpec)

/-- ITS FALSE NEIGHBOUR: 'it returns false'. Refute it at one input. -/
def confSparedWrong : ChangeSpec := { name := "confSpared", fn := fun _ => fun
  | [d] => { results := [.lit (.bool false)], args := [d] }
  | _ => none }
def ConfSparedWrongFalsely : Prop := confSparedRow.holds Tryz.pinned (OpenSpec.ofChange confSparedWrong)

/-- 'patchbaylaw21.ConfKnown': WHATEVER THE INPUT: true; the input reads as it did. -/
def confKnownSpec : ChangeSpec := { name := "confKnown", fn := fun _ => fun
  | [] => { results := [.lit (.bool true)], args := [] }
  | _ => none }
def confKnownRow : OpenClaim := { program := "ytnoobdijbpmjkaagreat", sum := "a7a075db98af0dcae4c5a12f8339d4e3c58f9bb3cf88c771cc789dd4d443ffef", func := "patchbay/patchbaylaw21.ConfKnown", spec := "confKnown", inPlace := ["slices.overlaps[int]"], unfollowed := true, recurses := true, plainKeys := false, apart := false }
def ConfKnownSaid : Prop := confKnownRow.holds Tryz.pinned (OpenSpec.ofChange confKnownSpec)

/-- ITS FALSE NEIGHBOUR: 'it returns false'. Refute it at one input. -/
def confKnownWrong : ChangeSpec := { name := "confKnown", fn := fun _ => fun
  | [] => { results := [.lit (.bool false)], args := [] }
  | _ => none }
def ConfKnownWrongFalsely : Prop := confKnownRow.holds Tryz.pinned (OpenSpec.ofChange confKnownWrong)

/- THE SECOND FORM. 'bulk': how many values and letters a reading holds, each counted each time it is reached (what is shared counts as often as it is met; a slice's spare places count too). A statement '..UptoSaid' is the law's where the arguments, and the package variables that the reading takes, are together of bulk at most 1048576: NARROWER than '..Said'. Prove '..Said' where nothing that the law and all that it calls make is longer than what came in: it says more and counts as full. Else prove '..UptoSaid'. A law counts once. -/
mutual
def uptoBulk {H : Type} : DataW H → Nat
  | .lit (.string bytes) => bytes.length + 1
  | .lit _ => 1
  | .nil => 1
  | .ptr d => uptoBulk d + 1
  | .slice elems spare => uptoBulkAll elems + uptoBulkAll spare + 1
  | .agg parts => uptoBulkAll parts + 1
  | .iface _ d => uptoBulk d + 1
  | .map entries => uptoBulkEntries entries + 1
  | .held _ => 1
def uptoBulkAll {H : Type} : List (DataW H) → Nat
  | [] => 0
  | d :: r => uptoBulk d + uptoBulkAll r
def uptoBulkEntries {H : Type} : List (Lit × DataW H) → Nat
  | [] => 0
  | x :: r => uptoBulkEntry x + uptoBulkEntries r
def uptoBulkEntry {H : Type} : Lit × DataW H → Nat
  | (.string bytes, d) => bytes.length + uptoBulk d + 1
  | (_, d) => uptoBulk d + 1
 end
def uptoSmall : (H : Type) → List (DataW H) → Bool := fun _ ds => decide (uptoBulkAll ds ≤ 1048576)
def OpenSpec.upto (s : _root_.Go.ChangeSpec) : _root_.Go.OpenSpec := { _root_.Go.OpenSpec.ofChange s with cond := some uptoSmall }

/-- 'patchbaylaw21.ConfChecks', WHERE WHAT IT READS IS OF BULK AT MOST 1048576: true; the input reads as it did. -/
def confChecksUptoRow : OpenClaim := { program := "ytnoobdijbpmjkaagreat", sum := "a7a075db98af0dcae4c5a12f8339d4e3c58f9bb3cf88c771cc789dd4d443ffef", func := "patchbay/patchbaylaw21.ConfChecks", spec := "confChecks", inPlace := ["slices.overlaps[int]"], unfollowed := true, recurses := true, plainKeys := false, apart := false, narrowed := true }
def ConfChecksUptoSaid : Prop := confChecksUptoRow.holds Tryz.pinned (OpenSpec.upto confChecksSpec)

/-- 'patchbaylaw21.ConfDiffs', WHERE WHAT IT READS IS OF BULK AT MOST 1048576: true; the input reads as it did. -/
def confDiffsUptoRow : OpenClaim := { program := "ytnoobdijbpmjkaagreat", sum := "a7a075db98af0dcae4c5a12f8339d4e3c58f9bb3cf88c771cc789dd4d443ffef", func := "patchbay/patchbaylaw21.ConfDiffs", spec := "confDiffs", inPlace := ["slices.overlaps[int]"], unfollowed := true, recurses := true, plainKeys := false, apart := false, narrowed := true }
def ConfDiffsUptoSaid : Prop := confDiffsUptoRow.holds Tryz.pinned (OpenSpec.upto confDiffsSpec)

/-- 'patchbaylaw21.ConfApplies', WHERE WHAT IT READS IS OF BULK AT MOST 1048576: true; the input reads as it did. -/
def confAppliesUptoRow : OpenClaim := { program := "ytnoobdijbpmjkaagreat", sum := "a7a075db98af0dcae4c5a12f8339d4e3c58f9bb3cf88c771cc789dd4d443ffef", func := "patchbay/patchbaylaw21.ConfApplies", spec := "confApplies", inPlace := ["slices.overlaps[int]"], unfollowed := true, recurses := true, plainKeys := false, apart := false, narrowed := true }
def ConfAppliesUptoSaid : Prop := confAppliesUptoRow.holds Tryz.pinned (OpenSpec.upto confAppliesSpec)

/-- 'patchbaylaw21.ConfBack', WHERE WHAT IT READS IS OF BULK AT MOST 1048576: true; the input reads as it did. -/
def confBackUptoRow : OpenClaim := { program := "ytnoobdijbpmjkaagreat", sum := "a7a075db98af0dcae4c5a12f8339d4e3c58f9bb3cf88c771cc789dd4d443ffef", func := "patchbay/patchbaylaw21.ConfBack", spec := "confBack", inPlace := ["slices.overlaps[int]"], unfollowed := true, recurses := true, plainKeys := false, apart := false, narrowed := true }
def ConfBackUptoSaid : Prop := confBackUptoRow.holds Tryz.pinned (OpenSpec.upto confBackSpec)

/-- 'patchbaylaw21.ConfSpares', WHERE WHAT IT READS IS OF BULK AT MOST 1048576: true; the input reads as it did. -/
def confSparesUptoRow : OpenClaim := { program := "ytnoobdijbpmjkaagreat", sum := "a7a075db98af0dcae4c5a12f8339d4e3c58f9bb3cf88c771cc789dd4d443ffef", func := "patchbay/patchbaylaw21.ConfSpares", spec := "confSpares", inPlace := ["slices.overlaps[int]"], unfollowed := true, recurses := true, plainKeys := false, apart := false, narrowed := true }
def ConfSparesUptoSaid : Prop := confSparesUptoRow.holds Tryz.pinned (OpenSpec.upto confSparesSpec)

/-- 'patchbaylaw21.ConfSpared', WHERE WHAT IT READS IS OF BULK AT MOST 1048576: true; the input reads as it did. -/
def confSparedUptoRow : OpenClaim := { program := "ytnoobdijbpmjkaagreat", sum := "a7a075db98af0dcae4c5a12f8339d4e3c58f9bb3cf88c771cc789dd4d443ffef", func := "patchbay/patchbaylaw21.ConfSpared", spec := "confSpared", inPlace := ["slices.overlaps[int]"], unfollowed := true, recurses := true, plainKeys := false, apart := false, narrowed := true }
def ConfSparedUptoSaid : Prop := confSparedUptoRow.holds Tryz.pinned (OpenSpec.upto confSparedSpec)

/-- 'patchbaylaw21.ConfKnown', WHERE WHAT IT READS IS OF BULK AT MOST 1048576: true; the input reads as it did. -/
def confKnownUptoRow : OpenClaim := { program := "ytnoobdijbpmjkaagreat", sum := "a7a075db98af0dcae4c5a12f8339d4e3c58f9bb3cf88c771cc789dd4d443ffef", func := "patchbay/patchbaylaw21.ConfKnown", spec := "confKnown", inPlace := ["slices.overlaps[int]"], unfollowed := true, recurses := true, plainKeys := false, apart := false, narrowed := true }
def ConfKnownUptoSaid : Prop := confKnownUptoRow.holds Tryz.pinned (OpenSpec.upto confKnownSpec)

end Rows
end Go.Proofs.YtnoobdijbpmjkaaGreat
