/-
  No cell of these rows narrows 'for every input' (looked for: loops, veiled, ifaces, maps, wideKeys, modest, calm, conditions, laid).
  DERIVED. THE GIVEN ROWS OF THIS SEAT. 4 by the template 'for every input the law returns true; each argument reads behind the call as it read before'; 0 by the template 'total and deterministic' (their statements: YtmdkmclgfgaahaaTotals.lean).
  GIVEN WITH THE SEED: the statements are not yours to turn. If you find one false, say at which input.
  Laid BY PROGRAM, IN A SANDBOX (cutbox-rows.mjs): the forced cells as the released guide's own fill.sh prints them over the translation 9ae1087940eab2a6… (all of the seat's roots in one cut). By AI agents, Wed Nov 11 2026. No macro, syntax, notation, axiom, sorry.
-/
import Derived.Test.YtmdkmclgfgaahaaChecked
import GoSem.Claim
import GoSem.ClaimJoined
import GoSem.ClaimMapViews
import Derived.JoinedTies
import Derived.KernelRfl
namespace Go.Proofs.Ytmdkmclgfgaahaa
/- THE CELL 'sum', in the pinned program and in every row, IS THE sha256 OF THE DUMP (.gsa) THAT YtmdkmclgfgaahaaProg.lean LOADS. Nothing in Lean hashes anything: it is a label: what it is worth is what the hold of that sum in a sandbox is worth. -/
noncomputable def Try.pinned : Pinned := { name := "ytmdkmclgfgaahaa", sum := "9ae1087940eab2a6bb0863d65124f7fce4b7719fdfe9f8ebc60e18adcef6d34c", checked := Try.checked }
namespace Rows
def none {H : Type} : Left H := { results := [], args := [] }

/-- 'patchbaylaw22.PlanLists': WHATEVER THE INPUT: true; the input reads as it did. -/
def planListsSpec : ChangeSpec := { name := "planLists", fn := fun _ => fun
  | [d1, d2] => { results := [.lit (.bool true)], args := [d1, d2] }
  | _ => none }
def planListsRow : OpenClaim := { program := "ytmdkmclgfgaahaa", sum := "9ae1087940eab2a6bb0863d65124f7fce4b7719fdfe9f8ebc60e18adcef6d34c", func := "patchbay/patchbaylaw22.PlanLists", spec := "planLists", unfollowed := true, recurses := true, plainKeys := false, apart := false }
def PlanListsSaid : Prop := planListsRow.holds Try.pinned (OpenSpec.ofChange planListsSpec)

/-- ITS FALSE NEIGHBOUR: 'it returns false'. Refute it at one input. -/
def planListsWrong : ChangeSpec := { name := "planLists", fn := fun _ => fun
  | [d1, d2] => { results := [.lit (.bool false)], args := [d1, d2] }
  | _ => none }
def PlanListsWrongFalsely : Prop := planListsRow.holds Try.pinned (OpenSpec.ofChange planListsWrong)

/-- 'patchbaylaw22.PlanNarrows': WHATEVER THE INPUT: true; the input reads as it did. -/
def planNarrowsSpec : ChangeSpec := { name := "planNarrows", fn := fun _ => fun
  | [d1, d2, d3] => { results := [.lit (.bool true)], args := [d1, d2, d3] }
  | _ => none }
def planNarrowsRow : OpenClaim := { program := "ytmdkmclgfgaahaa", sum := "9ae1087940eab2a6bb0863d65124f7fce4b7719fdfe9f8ebc60e18adcef6d34c", func := "patchbay/patchbaylaw22.PlanNarrows", spec := "planNarrows", unfollowed := true, recurses := true, plainKeys := false, apart := false }
def PlanNarrowsSaid : Prop := planNarrowsRow.holds Try.pinned (OpenSpec.ofChange planNarrowsSpec)

/-- ITS FALSE NEIGHBOUR: 'it returns false'. Refute it at one input. -/
def planNarrowsWrong : ChangeSpec := { name := "planNarrows", fn := fun _ => fun
  | [d1, d2, d3] => { results := [.lit (.bool false)], args := [d1, d2, d3] }
  | _ => none }
def PlanNarrowsWrongFalsely : Prop := planNarrowsRow.holds Try.pinned (OpenSpec.ofChange planNarrowsWrong)

/-- 'patchbaylaw22.PlanKnown': WHATEVER THE INPUT: true; the input reads as it did. -/
def planKnownSpec : ChangeSpec := { name := "planKnown", fn := fun _ => fun
  | [] => { results := [.lit (.bool true)], args := [] }
  | _ => none }
def planKnownRow : OpenClaim := { program := "ytmdkmclgfgaahaa", sum := "9ae1087940eab2a6bb0863d65124f7fce4b7719fdfe9f8ebc60e18adcef6d34c", func := "patchbay/patchbaylaw22.PlanKnown", spec := "planKnown", unfollowed := true, recurses := true, plainKeys := false, apart := false }
def PlanKnownSaid : Prop := planKnownRow.holds Try.pinned (OpenSpec.ofChange planKnownSpec)

/-- ITS FALSE NEIGHBOUR: 'it returns false'. Refute it at one input. -/
def planKnownWrong : ChangeSpec := { name := "planKnown", fn := fun _ => fun
  | [] => { results := [.lit (.bool false)], args := [] }
  | _ => none }
def PlanKnownWrongFalsely : Prop := planKnownRow.holds Try.pinned (OpenSpec.ofChange planKnownWrong)

/-- 'patchbaylaw22.PlanSpared': WHATEVER THE INPUT: true; the input reads as it did. -/
def planSparedSpec : ChangeSpec := { name := "planSpared", fn := fun _ => fun
  | [d1, d2, d3] => { results := [.lit (.bool true)], args := [d1, d2, d3] }
  | _ => none }
def planSparedRow : OpenClaim := { program := "ytmdkmclgfgaahaa", sum := "9ae1087940eab2a6bb0863d65124f7fce4b7719fdfe9f8ebc60e18adcef6d34c", func := "patchbay/patchbaylaw22.PlanSpared", spec := "planSpared", unfollowed := true, recurses := true, plainKeys := false, apart := false }
def PlanSparedSaid : Prop := planSparedRow.holds Try.pinned (OpenSpec.ofChange planSparedSpec)

/-- ITS FALSE NEIGHBOUR: 'it returns false'. Refute it at one input. -/
def planSparedWrong : ChangeSpec := { name := "planSpared", fn := fun _ => fun
  | [d1, d2, d3] => { results := [.lit (.bool false)], args := [d1, d2, d3] }
  | _ => none }
def PlanSparedWrongFalsely : Prop := planSparedRow.holds Try.pinned (OpenSpec.ofChange planSparedWrong)

/- THE SECOND FORM. 'bulk': how many values and letters a reading holds, each counted each time it is reached (what is shared counts as often as it is met; a slice's spare places count too). A statement '..UptoSaid' is the law's where the arguments, and the package variables that the reading takes, are together of bulk at most 1048576: NARROWER than '..Said'. Prove '..Said' where nothing that the law and all that it calls make is longer than what came in: it says more and counts as full. Else prove '..UptoSaid'. A law counts once. -/
mutual
def uptoBulk {H : Type} : DataW H → Nat
  | .lit (.string bytes) => bytes.length + 1
  | .lit _ => 1
  | .nil => 1
  | .ptr d => uptoBulk d + 1
  | .slice elems spare => uptoBulkAll elems + uptoBulkAll spare + 1
  | .agg parts => uptoBulkAll parts + 1
  | .iface _ d => uptoBulk d + 1
  | .map entries => uptoBulkEntries entries + 1
  | .held _ => 1
def uptoBulkAll {H : Type} : List (DataW H) → Nat
  | [] => 0
  | d :: r => uptoBulk d + uptoBulkAll r
def uptoBulkEntries {H : Type} : List (Lit × DataW H) → Nat
  | [] => 0
  | x :: r => uptoBulkEntry x + uptoBulkEntries r
def uptoBulkEntry {H : Type} : Lit × DataW H → Nat
  | (.string bytes, d) => bytes.length + uptoBulk d + 1
  | (_, d) => uptoBulk d + 1
 end
def uptoSmall : (H : Type) → List (DataW H) → Bool := fun _ ds => decide (uptoBulkAll ds ≤ 1048576)
def OpenSpec.upto (s : _root_.Go.ChangeSpec) : _root_.Go.OpenSpec := { _root_.Go.OpenSpec.ofChange s with cond := some uptoSmall }

/-- 'patchbaylaw22.PlanLists', WHERE WHAT IT READS IS OF BULK AT MOST 1048576: true; the input reads as it did. -/
def planListsUptoRow : OpenClaim := { program := "ytmdkmclgfgaahaa", sum := "9ae1087940eab2a6bb0863d65124f7fce4b7719fdfe9f8ebc60e18adcef6d34c", func := "patchbay/patchbaylaw22.PlanLists", spec := "planLists", unfollowed := true, recurses := true, plainKeys := false, apart := false, narrowed := true }
def PlanListsUptoSaid : Prop := planListsUptoRow.holds Try.pinned (OpenSpec.upto planListsSpec)

/-- 'patchbaylaw22.PlanNarrows', WHERE WHAT IT READS IS OF BULK AT MOST 1048576: true; the input reads as it did. -/
def planNarrowsUptoRow : OpenClaim := { program := "ytmdkmclgfgaahaa", sum := "9ae1087940eab2a6bb0863d65124f7fce4b7719fdfe9f8ebc60e18adcef6d34c", func := "patchbay/patchbaylaw22.PlanNarrows", spec := "planNarrows", unfollowed := true, recurses := true, plainKeys := false, apart := false, narrowed := true }
def PlanNarrowsUptoSaid : Prop := planNarrowsUptoRow.holds Try.pinned (OpenSpec.upto planNarrowsSpec)

/-- 'patchbaylaw22.PlanKnown', WHERE WHAT IT READS IS OF BULK AT MOST 1048576: true; the input reads as it did. -/
def planKnownUptoRow : OpenClaim := { program := "ytmdkmclgfgaahaa", sum := "9ae1087940eab2a6bb0863d65124f7fce4b7719fdfe9f8ebc60e18adcef6d34c", func := "patchbay/patchbaylaw22.PlanKnown", spec := "planKnown", unfollowed := true, recurses := true, plainKeys := false, apart := false, narrowed := true }
def PlanKnownUptoSaid : Prop := planKnownUptoRow.holds Try.pinned (OpenSpec.upto planKnownSpec)

/-- 'patchbaylaw22.PlanSpared', WHERE WHAT IT READS IS OF BULK AT MOST 1048576: true; the input reads as it did. -/
def planSparedUptoRow : OpenClaim := { program := "ytmdkmclgfgaahaa", sum := "9ae1087940eab2a6bb0863d65124f7fce4b7719fdfe9f8ebc60e18adcef6d34c", func := "patchbay/patchbaylaw22.PlanSpared", spec := "planSpared", unfollowed := true, recurses := true, plainKeys := false, apart := false, narrowed := true }
def PlanSparedUptoSaid : Prop := planSparedUptoRow.holds Try.pinned (OpenSpec.upto planSparedSpec)

end Rows
end Go.Proofs.Ytmdkmclgfgaahaa
