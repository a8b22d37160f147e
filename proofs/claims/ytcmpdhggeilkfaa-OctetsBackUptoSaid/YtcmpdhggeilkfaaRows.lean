/-
  No cell of these rows narrows 'for every input' (looked for: loops, veiled, ifaces, maps, wideKeys, modest, calm, conditions, laid).
  DERIVED. THE GIVEN ROWS OF THIS SEAT. 9 by the template 'for every input the law returns true; each argument reads behind the call as it read before'; 0 by the template 'total and deterministic' (their statements: YtcmpdhggeilkfaaTotals.lean).
  GIVEN WITH THE SEED: the statements are not yours to turn. If you find one false, say at which input.
  Laid BY PROGRAM, IN A SANDBOX (cutbox-rows.mjs): the forced cells as the released guide's own fill.sh prints them over the translation 62ec27532abf2fdf… (all of the seat's roots in one cut). By AI agents, Wed Nov 11 2026. No macro, syntax, notation, axiom, sorry.
-/
import Derived.Test.YtcmpdhggeilkfaaChecked
import GoSem.Claim
import GoSem.ClaimJoined
import GoSem.ClaimMapViews
import Derived.JoinedTies
import Derived.KernelRfl
namespace Go.Proofs.Ytcmpdhggeilkfaa
/- THE CELL 'sum', in the pinned program and in every row, IS THE sha256 OF THE DUMP (.gsa) THAT YtcmpdhggeilkfaaProg.lean LOADS. Nothing in Lean hashes anything: it is a label: what it is worth is what the hold of that sum in a sandbox is worth. -/
noncomputable def Try.pinned : Pinned := { name := "ytcmpdhggeilkfaa", sum := "62ec27532abf2fdfe10b8660f2e21de25cec46ae7c9e03bce5b6dfcac3e37408", checked := Try.checked }
namespace Rows
def none {H : Type} : Left H := { results := [], args := [] }

/-- 'patchbaylaw01.OctetsPuts': WHATEVER THE INPUT: true; the input reads as it did. -/
def octetsPutsSpec : ChangeSpec := { name := "octetsPuts", fn := fun _ => fun
  | [d1, d2] => { results := [.lit (.bool true)], args := [d1, d2] }
  | _ => none }
def octetsPutsRow : OpenClaim := { program := "ytcmpdhggeilkfaa", sum := "62ec27532abf2fdfe10b8660f2e21de25cec46ae7c9e03bce5b6dfcac3e37408", func := "patchbay/patchbaylaw01.OctetsPuts", spec := "octetsPuts", apart := false }
def OctetsPutsSaid : Prop := octetsPutsRow.holds Try.pinned (OpenSpec.ofChange octetsPutsSpec)

/-- ITS FALSE NEIGHBOUR: 'it returns false'. Refute it at one input. -/
def octetsPutsWrong : ChangeSpec := { name := "octetsPuts", fn := fun _ => fun
  | [d1, d2] => { results := [.lit (.bool false)], args := [d1, d2] }
  | _ => none }
def OctetsPutsWrongFalsely : Prop := octetsPutsRow.holds Try.pinned (OpenSpec.ofChange octetsPutsWrong)

/-- 'patchbaylaw01.OctetsTakes': WHATEVER THE INPUT: true; the input reads as it did. -/
def octetsTakesSpec : ChangeSpec := { name := "octetsTakes", fn := fun _ => fun
  | [d1, d2] => { results := [.lit (.bool true)], args := [d1, d2] }
  | _ => none }
def octetsTakesRow : OpenClaim := { program := "ytcmpdhggeilkfaa", sum := "62ec27532abf2fdfe10b8660f2e21de25cec46ae7c9e03bce5b6dfcac3e37408", func := "patchbay/patchbaylaw01.OctetsTakes", spec := "octetsTakes", apart := false }
def OctetsTakesSaid : Prop := octetsTakesRow.holds Try.pinned (OpenSpec.ofChange octetsTakesSpec)

/-- ITS FALSE NEIGHBOUR: 'it returns false'. Refute it at one input. -/
def octetsTakesWrong : ChangeSpec := { name := "octetsTakes", fn := fun _ => fun
  | [d1, d2] => { results := [.lit (.bool false)], args := [d1, d2] }
  | _ => none }
def OctetsTakesWrongFalsely : Prop := octetsTakesRow.holds Try.pinned (OpenSpec.ofChange octetsTakesWrong)

/-- 'patchbaylaw01.OctetsSums': WHATEVER THE INPUT: true; the input reads as it did. -/
def octetsSumsSpec : ChangeSpec := { name := "octetsSums", fn := fun _ => fun
  | [d] => { results := [.lit (.bool true)], args := [d] }
  | _ => none }
def octetsSumsRow : OpenClaim := { program := "ytcmpdhggeilkfaa", sum := "62ec27532abf2fdfe10b8660f2e21de25cec46ae7c9e03bce5b6dfcac3e37408", func := "patchbay/patchbaylaw01.OctetsSums", spec := "octetsSums", apart := false }
def OctetsSumsSaid : Prop := octetsSumsRow.holds Try.pinned (OpenSpec.ofChange octetsSumsSpec)

/-- ITS FALSE NEIGHBOUR: 'it returns false'. Refute it at one input. -/
def octetsSumsWrong : ChangeSpec := { name := "octetsSums", fn := fun _ => fun
  | [d] => { results := [.lit (.bool false)], args := [d] }
  | _ => none }
def OctetsSumsWrongFalsely : Prop := octetsSumsRow.holds Try.pinned (OpenSpec.ofChange octetsSumsWrong)

/-- 'patchbaylaw01.OctetsParts': WHATEVER THE INPUT: true; the input reads as it did. -/
def octetsPartsSpec : ChangeSpec := { name := "octetsParts", fn := fun _ => fun
  | [d1, d2, d3] => { results := [.lit (.bool true)], args := [d1, d2, d3] }
  | _ => none }
def octetsPartsRow : OpenClaim := { program := "ytcmpdhggeilkfaa", sum := "62ec27532abf2fdfe10b8660f2e21de25cec46ae7c9e03bce5b6dfcac3e37408", func := "patchbay/patchbaylaw01.OctetsParts", spec := "octetsParts", apart := false }
def OctetsPartsSaid : Prop := octetsPartsRow.holds Try.pinned (OpenSpec.ofChange octetsPartsSpec)

/-- ITS FALSE NEIGHBOUR: 'it returns false'. Refute it at one input. -/
def octetsPartsWrong : ChangeSpec := { name := "octetsParts", fn := fun _ => fun
  | [d1, d2, d3] => { results := [.lit (.bool false)], args := [d1, d2, d3] }
  | _ => none }
def OctetsPartsWrongFalsely : Prop := octetsPartsRow.holds Try.pinned (OpenSpec.ofChange octetsPartsWrong)

/-- 'patchbaylaw01.OctetsUpdates': WHATEVER THE INPUT: true; the input reads as it did. -/
def octetsUpdatesSpec : ChangeSpec := { name := "octetsUpdates", fn := fun _ => fun
  | [d1, d2, d3] => { results := [.lit (.bool true)], args := [d1, d2, d3] }
  | _ => none }
def octetsUpdatesRow : OpenClaim := { program := "ytcmpdhggeilkfaa", sum := "62ec27532abf2fdfe10b8660f2e21de25cec46ae7c9e03bce5b6dfcac3e37408", func := "patchbay/patchbaylaw01.OctetsUpdates", spec := "octetsUpdates", apart := false }
def OctetsUpdatesSaid : Prop := octetsUpdatesRow.holds Try.pinned (OpenSpec.ofChange octetsUpdatesSpec)

/-- ITS FALSE NEIGHBOUR: 'it returns false'. Refute it at one input. -/
def octetsUpdatesWrong : ChangeSpec := { name := "octetsUpdates", fn := fun _ => fun
  | [d1, d2, d3] => { results := [.lit (.bool false)], args := [d1, d2, d3] }
  | _ => none }
def OctetsUpdatesWrongFalsely : Prop := octetsUpdatesRow.holds Try.pinned (OpenSpec.ofChange octetsUpdatesWrong)

/-- 'patchbaylaw01.OctetsFollows': WHATEVER THE INPUT: true; the input reads as it did. -/
def octetsFollowsSpec : ChangeSpec := { name := "octetsFollows", fn := fun _ => fun
  | [d1, d2, d3] => { results := [.lit (.bool true)], args := [d1, d2, d3] }
  | _ => none }
def octetsFollowsRow : OpenClaim := { program := "ytcmpdhggeilkfaa", sum := "62ec27532abf2fdfe10b8660f2e21de25cec46ae7c9e03bce5b6dfcac3e37408", func := "patchbay/patchbaylaw01.OctetsFollows", spec := "octetsFollows", apart := false }
def OctetsFollowsSaid : Prop := octetsFollowsRow.holds Try.pinned (OpenSpec.ofChange octetsFollowsSpec)

/-- ITS FALSE NEIGHBOUR: 'it returns false'. Refute it at one input. -/
def octetsFollowsWrong : ChangeSpec := { name := "octetsFollows", fn := fun _ => fun
  | [d1, d2, d3] => { results := [.lit (.bool false)], args := [d1, d2, d3] }
  | _ => none }
def OctetsFollowsWrongFalsely : Prop := octetsFollowsRow.holds Try.pinned (OpenSpec.ofChange octetsFollowsWrong)

/-- 'patchbaylaw01.OctetsBack': WHATEVER THE INPUT: true; the input reads as it did. -/
def octetsBackSpec : ChangeSpec := { name := "octetsBack", fn := fun _ => fun
  | [d1, d2] => { results := [.lit (.bool true)], args := [d1, d2] }
  | _ => none }
def octetsBackRow : OpenClaim := { program := "ytcmpdhggeilkfaa", sum := "62ec27532abf2fdfe10b8660f2e21de25cec46ae7c9e03bce5b6dfcac3e37408", func := "patchbay/patchbaylaw01.OctetsBack", spec := "octetsBack", apart := false }
def OctetsBackSaid : Prop := octetsBackRow.holds Try.pinned (OpenSpec.ofChange octetsBackSpec)

/-- ITS FALSE NEIGHBOUR: 'it returns false'. Refute it at one input. -/
def octetsBackWrong : ChangeSpec := { name := "octetsBack", fn := fun _ => fun
  | [d1, d2] => { results := [.lit (.bool false)], args := [d1, d2] }
  | _ => none }
def OctetsBackWrongFalsely : Prop := octetsBackRow.holds Try.pinned (OpenSpec.ofChange octetsBackWrong)

/-- 'patchbaylaw01.OctetsCommon': WHATEVER THE INPUT: true; the input reads as it did. -/
def octetsCommonSpec : ChangeSpec := { name := "octetsCommon", fn := fun _ => fun
  | [d1, d2, d3] => { results := [.lit (.bool true)], args := [d1, d2, d3] }
  | _ => none }
def octetsCommonRow : OpenClaim := { program := "ytcmpdhggeilkfaa", sum := "62ec27532abf2fdfe10b8660f2e21de25cec46ae7c9e03bce5b6dfcac3e37408", func := "patchbay/patchbaylaw01.OctetsCommon", spec := "octetsCommon", apart := false }
def OctetsCommonSaid : Prop := octetsCommonRow.holds Try.pinned (OpenSpec.ofChange octetsCommonSpec)

/-- ITS FALSE NEIGHBOUR: 'it returns false'. Refute it at one input. -/
def octetsCommonWrong : ChangeSpec := { name := "octetsCommon", fn := fun _ => fun
  | [d1, d2, d3] => { results := [.lit (.bool false)], args := [d1, d2, d3] }
  | _ => none }
def OctetsCommonWrongFalsely : Prop := octetsCommonRow.holds Try.pinned (OpenSpec.ofChange octetsCommonWrong)

/-- 'patchbaylaw01.OctetsKnown': WHATEVER THE INPUT: true; the input reads as it did. -/
def octetsKnownSpec : ChangeSpec := { name := "octetsKnown", fn := fun _ => fun
  | [] => { results := [.lit (.bool true)], args := [] }
  | _ => none }
def octetsKnownRow : OpenClaim := { program := "ytcmpdhggeilkfaa", sum := "62ec27532abf2fdfe10b8660f2e21de25cec46ae7c9e03bce5b6dfcac3e37408", func := "patchbay/patchbaylaw01.OctetsKnown", spec := "octetsKnown", apart := false }
def OctetsKnownSaid : Prop := octetsKnownRow.holds Try.pinned (OpenSpec.ofChange octetsKnownSpec)

/-- ITS FALSE NEIGHBOUR: 'it returns false'. Refute it at one input. -/
def octetsKnownWrong : ChangeSpec := { name := "octetsKnown", fn := fun _ => fun
  | [] => { results := [.lit (.bool false)], args := [] }
  | _ => none }
def OctetsKnownWrongFalsely : Prop := octetsKnownRow.holds Try.pinned (OpenSpec.ofChange octetsKnownWrong)

/- THE SECOND FORM. 'bulk': how many values and letters a reading holds, each counted each time it is reached (what is shared counts as often as it is met; a slice's spare places count too). A statement '..UptoSaid' is the law's where the arguments, and the package variables that the reading takes, are together of bulk at most 1048576: NARROWER than '..Said'. Prove '..Said' where nothing that the law and all that it calls make is longer than what came in: it says more and counts as full. Else prove '..UptoSaid'. A law counts once. -/
mutual
def uptoBulk {H : Type} : DataW H → Nat
  | .lit (.string bytes) => bytes.length + 1
  | .lit _ => 1
  | .nil => 1
  | .ptr d => uptoBulk d + 1
  | .slice elems spare => uptoBulkAll elems + uptoBulkAll spare + 1
  | .agg parts => uptoBulkAll parts + 1
  | .iface _ d => uptoBulk d + 1
  | .map entries => uptoBulkEntries entries + 1
  | .held _ => 1
def uptoBulkAll {H : Type} : List (DataW H) → Nat
  | [] => 0
  | d :: r => uptoBulk d + uptoBulkAll r
def uptoBulkEntries {H : Type} : List (Lit × DataW H) → Nat
  | [] => 0
  | x :: r => uptoBulkEntry x + uptoBulkEntries r
def uptoBulkEntry {H : Type} : Lit × DataW H → Nat
  | (.string bytes, d) => bytes.length + uptoBulk d + 1
  | (_, d) => uptoBulk d + 1
 end
def uptoSmall : (H : Type) → List (DataW H) → Bool := fun _ ds => decide (uptoBulkAll ds ≤ 1048576)
def OpenSpec.upto (s : _root_.Go.ChangeSpec) : _root_.Go.OpenSpec := { _root_.Go.OpenSpec.ofChange s with cond := some uptoSmall }

/-- 'patchbaylaw01.OctetsPuts', WHERE WHAT IT READS IS OF BULK AT MOST 1048576: true; the input reads as it did. -/
def octetsPutsUptoRow : OpenClaim := { program := "ytcmpdhggeilkfaa", sum := "62ec27532abf2fdfe10b8660f2e21de25cec46ae7c9e03bce5b6dfcac3e37408", func := "patchbay/patchbaylaw01.OctetsPuts", spec := "octetsPuts", apart := false, narrowed := true }
def OctetsPutsUptoSaid : Prop := octetsPutsUptoRow.holds Try.pinned (OpenSpec.upto octetsPutsSpec)

/-- 'patchbaylaw01.OctetsTakes', WHERE WHAT IT READS IS OF BULK AT MOST 1048576: true; the input reads as it did. -/
def octetsTakesUptoRow : OpenClaim := { program := "ytcmpdhggeilkfaa", sum := "62ec27532abf2fdfe10b8660f2e21de25cec46ae7c9e03bce5b6dfcac3e37408", func := "patchbay/patchbaylaw01.OctetsTakes", spec := "octetsTakes", apart := false, narrowed := true }
def OctetsTakesUptoSaid : Prop := octetsTakesUptoRow.holds Try.pinned (OpenSpec.upto octetsTakesSpec)

/-- 'patchbaylaw01.OctetsSums', WHERE WHAT IT READS IS OF BULK AT MOST 1048576: true; the input reads as it did. -/
def octetsSumsUptoRow : OpenClaim := { program := "ytcmpdhggeilkfaa", sum := "62ec27532abf2fdfe10b8660f2e21de25cec46ae7c9e03bce5b6dfcac3e37408", func := "patchbay/patchbaylaw01.OctetsSums", spec := "octetsSums", apart := false, narrowed := true }
def OctetsSumsUptoSaid : Prop := octetsSumsUptoRow.holds Try.pinned (OpenSpec.upto octetsSumsSpec)

/-- 'patchbaylaw01.OctetsParts', WHERE WHAT IT READS IS OF BULK AT MOST 1048576: true; the input reads as it did. -/
def octetsPartsUptoRow : OpenClaim := { program := "ytcmpdhggeilkfaa", sum := "62ec27532abf2fdfe10b8660f2e21de25cec46ae7c9e03bce5b6dfcac3e37408", func := "patchbay/patchbaylaw01.OctetsParts", spec := "octetsParts", apart := false, narrowed := true }
def OctetsPartsUptoSaid : Prop := octetsPartsUptoRow.holds Try.pinned (OpenSpec.upto octetsPartsSpec)

/-- 'patchbaylaw01.OctetsUpdates', WHERE WHAT IT READS IS OF BULK AT MOST 1048576: true; the input reads as it did. -/
def octetsUpdatesUptoRow : OpenClaim := { program := "ytcmpdhggeilkfaa", sum := "62ec27532abf2fdfe10b8660f2e21de25cec46ae7c9e03bce5b6dfcac3e37408", func := "patchbay/patchbaylaw01.OctetsUpdates", spec := "octetsUpdates", apart := false, narrowed := true }
def OctetsUpdatesUptoSaid : Prop := octetsUpdatesUptoRow.holds Try.pinned (OpenSpec.upto octetsUpdatesSpec)

/-- 'patchbaylaw01.OctetsFollows', WHERE WHAT IT READS IS OF BULK AT MOST 1048576: true; the input reads as it did. -/
def octetsFollowsUptoRow : OpenClaim := { program := "ytcmpdhggeilkfaa", sum := "62ec27532abf2fdfe10b8660f2e21de25cec46ae7c9e03bce5b6dfcac3e37408", func := "patchbay/patchbaylaw01.OctetsFollows", spec := "octetsFollows", apart := false, narrowed := true }
def OctetsFollowsUptoSaid : Prop := octetsFollowsUptoRow.holds Try.pinned (OpenSpec.upto octetsFollowsSpec)

/-- 'patchbaylaw01.OctetsBack', WHERE WHAT IT READS IS OF BULK AT MOST 1048576: true; the input reads as it did. -/
def octetsBackUptoRow : OpenClaim := { program := "ytcmpdhggeilkfaa", sum := "62ec27532abf2fdfe10b8660f2e21de25cec46ae7c9e03bce5b6dfcac3e37408", func := "patchbay/patchbaylaw01.OctetsBack", spec := "octetsBack", apart := false, narrowed := true }
def OctetsBackUptoSaid : Prop := octetsBackUptoRow.holds Try.pinned (OpenSpec.upto octetsBackSpec)

/-- 'patchbaylaw01.OctetsCommon', WHERE WHAT IT READS IS OF BULK AT MOST 1048576: true; the input reads as it did. -/
def octetsCommonUptoRow : OpenClaim := { program := "ytcmpdhggeilkfaa", sum := "62ec27532abf2fdfe10b8660f2e21de25cec46ae7c9e03bce5b6dfcac3e37408", func := "patchbay/patchbaylaw01.OctetsCommon", spec := "octetsCommon", apart := false, narrowed := true }
def OctetsCommonUptoSaid : Prop := octetsCommonUptoRow.holds Try.pinned (OpenSpec.upto octetsCommonSpec)

/-- 'patchbaylaw01.OctetsKnown', WHERE WHAT IT READS IS OF BULK AT MOST 1048576: true; the input reads as it did. -/
def octetsKnownUptoRow : OpenClaim := { program := "ytcmpdhggeilkfaa", sum := "62ec27532abf2fdfe10b8660f2e21de25cec46ae7c9e03bce5b6dfcac3e37408", func := "patchbay/patchbaylaw01.OctetsKnown", spec := "octetsKnown", apart := false, narrowed := true }
def OctetsKnownUptoSaid : Prop := octetsKnownUptoRow.holds Try.pinned (OpenSpec.upto octetsKnownSpec)

end Rows
end Go.Proofs.Ytcmpdhggeilkfaa
