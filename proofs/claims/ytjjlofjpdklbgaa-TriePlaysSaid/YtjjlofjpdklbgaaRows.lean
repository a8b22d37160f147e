/-
  No cell of these rows narrows 'for every input' (looked for: loops, veiled, ifaces, maps, wideKeys, modest, calm, conditions, laid).
  DERIVED. THE GIVEN ROWS OF THIS SEAT. 4 by the template 'for every input the law returns true; each argument reads behind the call as it read before'; 0 by the template 'total and deterministic' (their statements: YtjjlofjpdklbgaaTotals.lean).
  GIVEN WITH THE SEED: the statements are not yours to turn. If you find one false, say at which input.
  Laid BY PROGRAM, IN A SANDBOX (cutbox-rows.mjs): the forced cells as the released guide's own fill.sh prints them over the translation 3b8978f67300bfc0… (all of the seat's roots in one cut). By AI agents, Wed Nov 11 2026. No macro, syntax, notation, axiom, sorry.
-/
import Derived.Test.YtjjlofjpdklbgaaChecked
import GoSem.Claim
import GoSem.ClaimJoined
import GoSem.ClaimMapViews
import Derived.JoinedTies
import Derived.KernelRfl
namespace Go.Proofs.Ytjjlofjpdklbgaa
/- THE CELL 'sum', in the pinned program and in every row, IS THE sha256 OF THE DUMP (.gsa) THAT YtjjlofjpdklbgaaProg.lean LOADS. Nothing in Lean hashes anything: it is a label: what it is worth is what the hold of that sum in a sandbox is worth. -/
noncomputable def Try.pinned : Pinned := { name := "ytjjlofjpdklbgaa", sum := "3b8978f67300bfc0055cdc4dad0db3fdb3b4524b350a5962b70f332076818d5e", checked := Try.checked }
namespace Rows
def none {H : Type} : Left H := { results := [], args := [] }

/-- 'patchbaylaw18.TrieLongest': WHATEVER THE INPUT: true; the input reads as it did. -/
def trieLongestSpec : ChangeSpec := { name := "trieLongest", fn := fun _ => fun
  | [d1, d2] => { results := [.lit (.bool true)], args := [d1, d2] }
  | _ => none }
def trieLongestRow : OpenClaim := { program := "ytjjlofjpdklbgaa", sum := "3b8978f67300bfc0055cdc4dad0db3fdb3b4524b350a5962b70f332076818d5e", func := "patchbay/patchbaylaw18.TrieLongest", spec := "trieLongest", unfollowed := true, recurses := true, apart := false }
def TrieLongestSaid : Prop := trieLongestRow.holds Try.pinned (OpenSpec.ofChange trieLongestSpec)

/-- ITS FALSE NEIGHBOUR: 'it returns false'. Refute it at one input. -/
def trieLongestWrong : ChangeSpec := { name := "trieLongest", fn := fun _ => fun
  | [d1, d2] => { results := [.lit (.bool false)], args := [d1, d2] }
  | _ => none }
def TrieLongestWrongFalsely : Prop := trieLongestRow.holds Try.pinned (OpenSpec.ofChange trieLongestWrong)

/-- 'patchbaylaw18.TrieNames': WHATEVER THE INPUT: true; the input reads as it did. -/
def trieNamesSpec : ChangeSpec := { name := "trieNames", fn := fun _ => fun
  | [] => { results := [.lit (.bool true)], args := [] }
  | _ => none }
def trieNamesRow : OpenClaim := { program := "ytjjlofjpdklbgaa", sum := "3b8978f67300bfc0055cdc4dad0db3fdb3b4524b350a5962b70f332076818d5e", func := "patchbay/patchbaylaw18.TrieNames", spec := "trieNames", unfollowed := true, recurses := true, apart := false }
def TrieNamesSaid : Prop := trieNamesRow.holds Try.pinned (OpenSpec.ofChange trieNamesSpec)

/-- ITS FALSE NEIGHBOUR: 'it returns false'. Refute it at one input. -/
def trieNamesWrong : ChangeSpec := { name := "trieNames", fn := fun _ => fun
  | [] => { results := [.lit (.bool false)], args := [] }
  | _ => none }
def TrieNamesWrongFalsely : Prop := trieNamesRow.holds Try.pinned (OpenSpec.ofChange trieNamesWrong)

/-- 'patchbaylaw18.TriePlays': WHATEVER THE INPUT: true; the input reads as it did. -/
def triePlaysSpec : ChangeSpec := { name := "triePlays", fn := fun _ => fun
  | [d1, d2] => { results := [.lit (.bool true)], args := [d1, d2] }
  | _ => none }
def triePlaysRow : OpenClaim := { program := "ytjjlofjpdklbgaa", sum := "3b8978f67300bfc0055cdc4dad0db3fdb3b4524b350a5962b70f332076818d5e", func := "patchbay/patchbaylaw18.TriePlays", spec := "triePlays", unfollowed := true, recurses := true, apart := false }
def TriePlaysSaid : Prop := triePlaysRow.holds Try.pinned (OpenSpec.ofChange triePlaysSpec)

/-- ITS FALSE NEIGHBOUR: 'it returns false'. Refute it at one input. -/
def triePlaysWrong : ChangeSpec := { name := "triePlays", fn := fun _ => fun
  | [d1, d2] => { results := [.lit (.bool false)], args := [d1, d2] }
  | _ => none }
def TriePlaysWrongFalsely : Prop := triePlaysRow.holds Try.pinned (OpenSpec.ofChange triePlaysWrong)

/-- 'patchbaylaw18.TrieWay': WHATEVER THE INPUT: true; the input reads as it did. -/
def trieWaySpec : ChangeSpec := { name := "trieWay", fn := fun _ => fun
  | [d1, d2, d3] => { results := [.lit (.bool true)], args := [d1, d2, d3] }
  | _ => none }
def trieWayRow : OpenClaim := { program := "ytjjlofjpdklbgaa", sum := "3b8978f67300bfc0055cdc4dad0db3fdb3b4524b350a5962b70f332076818d5e", func := "patchbay/patchbaylaw18.TrieWay", spec := "trieWay", inPlace := ["internal/bytealg.Compare"], unfollowed := true, recurses := true, apart := false }
def TrieWaySaid : Prop := trieWayRow.holds Try.pinned (OpenSpec.ofChange trieWaySpec)

/-- ITS FALSE NEIGHBOUR: 'it returns false'. Refute it at one input. -/
def trieWayWrong : ChangeSpec := { name := "trieWay", fn := fun _ => fun
  | [d1, d2, d3] => { results := [.lit (.bool false)], args := [d1, d2, d3] }
  | _ => none }
def TrieWayWrongFalsely : Prop := trieWayRow.holds Try.pinned (OpenSpec.ofChange trieWayWrong)

/- THE SECOND FORM. 'bulk': how many values and letters a reading holds, each counted each time it is reached (what is shared counts as often as it is met; a slice's spare places count too). A statement '..UptoSaid' is the law's where the arguments, and the package variables that the reading takes, are together of bulk at most 1048576: NARROWER than '..Said'. Prove '..Said' where nothing that the law and all that it calls make is longer than what came in: it says more and counts as full. Else prove '..UptoSaid'. A law counts once. -/
mutual
def uptoBulk {H : Type} : DataW H → Nat
  | .lit (.string bytes) => bytes.length + 1
  | .lit _ => 1
  | .nil => 1
  | .ptr d => uptoBulk d + 1
  | .slice elems spare => uptoBulkAll elems + uptoBulkAll spare + 1
  | .agg parts => uptoBulkAll parts + 1
  | .iface _ d => uptoBulk d + 1
  | .map entries => uptoBulkEntries entries + 1
  | .held _ => 1
def uptoBulkAll {H : Type} : List (DataW H) → Nat
  | [] => 0
  | d :: r => uptoBulk d + uptoBulkAll r
def uptoBulkEntries {H : Type} : List (Lit × DataW H) → Nat
  | [] => 0
  | x :: r => uptoBulkEntry x + uptoBulkEntries r
def uptoBulkEntry {H : Type} : Lit × DataW H → Nat
  | (.string bytes, d) => bytes.length + uptoBulk d + 1
  | (_, d) => uptoBulk d + 1
 end
def uptoSmall : (H : Type) → List (DataW H) → Bool := fun _ ds => decide (uptoBulkAll ds ≤ 1048576)
def OpenSpec.upto (s : _root_.Go.ChangeSpec) : _root_.Go.OpenSpec := { _root_.Go.OpenSpec.ofChange s with cond := some uptoSmall }

/-- 'patchbaylaw18.TrieLongest', WHERE WHAT IT READS IS OF BULK AT MOST 1048576: true; the input reads as it did. -/
def trieLongestUptoRow : OpenClaim := { program := "ytjjlofjpdklbgaa", sum := "3b8978f67300bfc0055cdc4dad0db3fdb3b4524b350a5962b70f332076818d5e", func := "patchbay/patchbaylaw18.TrieLongest", spec := "trieLongest", unfollowed := true, recurses := true, apart := false, narrowed := true }
def TrieLongestUptoSaid : Prop := trieLongestUptoRow.holds Try.pinned (OpenSpec.upto trieLongestSpec)

/-- 'patchbaylaw18.TrieNames', WHERE WHAT IT READS IS OF BULK AT MOST 1048576: true; the input reads as it did. -/
def trieNamesUptoRow : OpenClaim := { program := "ytjjlofjpdklbgaa", sum := "3b8978f67300bfc0055cdc4dad0db3fdb3b4524b350a5962b70f332076818d5e", func := "patchbay/patchbaylaw18.TrieNames", spec := "trieNames", unfollowed := true, recurses := true, apart := false, narrowed := true }
def TrieNamesUptoSaid : Prop := trieNamesUptoRow.holds Try.pinned (OpenSpec.upto trieNamesSpec)

/-- 'patchbaylaw18.TriePlays', WHERE WHAT IT READS IS OF BULK AT MOST 1048576: true; the input reads as it did. -/
def triePlaysUptoRow : OpenClaim := { program := "ytjjlofjpdklbgaa", sum := "3b8978f67300bfc0055cdc4dad0db3fdb3b4524b350a5962b70f332076818d5e", func := "patchbay/patchbaylaw18.TriePlays", spec := "triePlays", unfollowed := true, recurses := true, apart := false, narrowed := true }
def TriePlaysUptoSaid : Prop := triePlaysUptoRow.holds Try.pinned (OpenSpec.upto triePlaysSpec)

/-- 'patchbaylaw18.TrieWay', WHERE WHAT IT READS IS OF BULK AT MOST 1048576: true; the input reads as it did. -/
def trieWayUptoRow : OpenClaim := { program := "ytjjlofjpdklbgaa", sum := "3b8978f67300bfc0055cdc4dad0db3fdb3b4524b350a5962b70f332076818d5e", func := "patchbay/patchbaylaw18.TrieWay", spec := "trieWay", inPlace := ["internal/bytealg.Compare"], unfollowed := true, recurses := true, apart := false, narrowed := true }
def TrieWayUptoSaid : Prop := trieWayUptoRow.holds Try.pinned (OpenSpec.upto trieWaySpec)

end Rows
end Go.Proofs.Ytjjlofjpdklbgaa
