/-
  No cell of these rows narrows 'for every input' (looked for: loops, veiled, ifaces, maps, wideKeys, modest, calm, conditions, laid).
  DERIVED. THE GIVEN ROWS OF THIS SEAT. 12 by the template 'for every input the law returns true; each argument reads behind the call as it read before'; 0 by the template 'total and deterministic' (their statements: YtodlkjjoenglgaaTotals.lean).
  GIVEN WITH THE SEED: the statements are not yours to turn. If you find one false, say at which input.
  Laid BY PROGRAM, IN A SANDBOX (cutbox-rows.mjs): the forced cells as the released guide's own fill.sh prints them over the translation f4be72ac82ed1e93… (all of the seat's roots in one cut). By AI agents, Wed Nov 11 2026. No macro, syntax, notation, axiom, sorry.
-/
import Derived.Test.YtodlkjjoenglgaaChecked
import GoSem.Claim
import GoSem.ClaimJoined
import GoSem.ClaimMapViews
import Derived.JoinedTies
import Derived.KernelRfl
namespace Go.Proofs.Ytodlkjjoenglgaa
/- THE CELL 'sum', in the pinned program and in every row, IS THE sha256 OF THE DUMP (.gsa) THAT YtodlkjjoenglgaaProg.lean LOADS. Nothing in Lean hashes anything: it is a label: what it is worth is what the hold of that sum in a sandbox is worth. -/
noncomputable def Try.pinned : Pinned := { name := "ytodlkjjoenglgaa", sum := "f4be72ac82ed1e939fb9f6c7440337322f747334a418d1e0214f1dd31008a100", checked := Try.checked }
namespace Rows
def none {H : Type} : Left H := { results := [], args := [] }

/-- 'helmsmantop.TopCondsKept': WHATEVER THE INPUT: true; the input reads as it did. -/
def topCondsKeptSpec : ChangeSpec := { name := "topCondsKept", fn := fun _ => fun
  | [d1, d2, d3, d4, d5, d6] => { results := [.lit (.bool true)], args := [d1, d2, d3, d4, d5, d6] }
  | _ => none }
def topCondsKeptRow : OpenClaim := { program := "ytodlkjjoenglgaa", sum := "f4be72ac82ed1e939fb9f6c7440337322f747334a418d1e0214f1dd31008a100", func := "helmsman/helmsmantop.TopCondsKept", spec := "topCondsKept", unfollowed := true, recurses := true, apart := false }
def TopCondsKeptSaid : Prop := topCondsKeptRow.holds Try.pinned (OpenSpec.ofChange topCondsKeptSpec)

/-- ITS FALSE NEIGHBOUR: 'it returns false'. Refute it at one input. -/
def topCondsKeptWrong : ChangeSpec := { name := "topCondsKept", fn := fun _ => fun
  | [d1, d2, d3, d4, d5, d6] => { results := [.lit (.bool false)], args := [d1, d2, d3, d4, d5, d6] }
  | _ => none }
def TopCondsKeptWrongFalsely : Prop := topCondsKeptRow.holds Try.pinned (OpenSpec.ofChange topCondsKeptWrong)

/-- 'helmsmantop.TopCondsDenied': WHATEVER THE INPUT: true; the input reads as it did. -/
def topCondsDeniedSpec : ChangeSpec := { name := "topCondsDenied", fn := fun _ => fun
  | [d1, d2, d3, d4, d5] => { results := [.lit (.bool true)], args := [d1, d2, d3, d4, d5] }
  | _ => none }
def topCondsDeniedRow : OpenClaim := { program := "ytodlkjjoenglgaa", sum := "f4be72ac82ed1e939fb9f6c7440337322f747334a418d1e0214f1dd31008a100", func := "helmsman/helmsmantop.TopCondsDenied", spec := "topCondsDenied", unfollowed := true, recurses := true, apart := false }
def TopCondsDeniedSaid : Prop := topCondsDeniedRow.holds Try.pinned (OpenSpec.ofChange topCondsDeniedSpec)

/-- ITS FALSE NEIGHBOUR: 'it returns false'. Refute it at one input. -/
def topCondsDeniedWrong : ChangeSpec := { name := "topCondsDenied", fn := fun _ => fun
  | [d1, d2, d3, d4, d5] => { results := [.lit (.bool false)], args := [d1, d2, d3, d4, d5] }
  | _ => none }
def TopCondsDeniedWrongFalsely : Prop := topCondsDeniedRow.holds Try.pinned (OpenSpec.ofChange topCondsDeniedWrong)

/-- 'helmsmantop.TopCondsDistributed': WHATEVER THE INPUT: true; the input reads as it did. -/
def topCondsDistributedSpec : ChangeSpec := { name := "topCondsDistributed", fn := fun _ => fun
  | [d1, d2, d3, d4, d5] => { results := [.lit (.bool true)], args := [d1, d2, d3, d4, d5] }
  | _ => none }
def topCondsDistributedRow : OpenClaim := { program := "ytodlkjjoenglgaa", sum := "f4be72ac82ed1e939fb9f6c7440337322f747334a418d1e0214f1dd31008a100", func := "helmsman/helmsmantop.TopCondsDistributed", spec := "topCondsDistributed", unfollowed := true, recurses := true, apart := false }
def TopCondsDistributedSaid : Prop := topCondsDistributedRow.holds Try.pinned (OpenSpec.ofChange topCondsDistributedSpec)

/-- ITS FALSE NEIGHBOUR: 'it returns false'. Refute it at one input. -/
def topCondsDistributedWrong : ChangeSpec := { name := "topCondsDistributed", fn := fun _ => fun
  | [d1, d2, d3, d4, d5] => { results := [.lit (.bool false)], args := [d1, d2, d3, d4, d5] }
  | _ => none }
def TopCondsDistributedWrongFalsely : Prop := topCondsDistributedRow.holds Try.pinned (OpenSpec.ofChange topCondsDistributedWrong)

/-- 'helmsmantop.TopQuantsParted': WHATEVER THE INPUT: true; the input reads as it did. -/
def topQuantsPartedSpec : ChangeSpec := { name := "topQuantsParted", fn := fun _ => fun
  | [d1, d2, d3, d4, d5] => { results := [.lit (.bool true)], args := [d1, d2, d3, d4, d5] }
  | _ => none }
def topQuantsPartedRow : OpenClaim := { program := "ytodlkjjoenglgaa", sum := "f4be72ac82ed1e939fb9f6c7440337322f747334a418d1e0214f1dd31008a100", func := "helmsman/helmsmantop.TopQuantsParted", spec := "topQuantsParted", unfollowed := true, recurses := true, apart := false }
def TopQuantsPartedSaid : Prop := topQuantsPartedRow.holds Try.pinned (OpenSpec.ofChange topQuantsPartedSpec)

/-- ITS FALSE NEIGHBOUR: 'it returns false'. Refute it at one input. -/
def topQuantsPartedWrong : ChangeSpec := { name := "topQuantsParted", fn := fun _ => fun
  | [d1, d2, d3, d4, d5] => { results := [.lit (.bool false)], args := [d1, d2, d3, d4, d5] }
  | _ => none }
def TopQuantsPartedWrongFalsely : Prop := topQuantsPartedRow.holds Try.pinned (OpenSpec.ofChange topQuantsPartedWrong)

/-- 'helmsmantop.TopQuantsMoved': WHATEVER THE INPUT: true; the input reads as it did. -/
def topQuantsMovedSpec : ChangeSpec := { name := "topQuantsMoved", fn := fun _ => fun
  | [d1, d2, d3, d4, d5] => { results := [.lit (.bool true)], args := [d1, d2, d3, d4, d5] }
  | _ => none }
def topQuantsMovedRow : OpenClaim := { program := "ytodlkjjoenglgaa", sum := "f4be72ac82ed1e939fb9f6c7440337322f747334a418d1e0214f1dd31008a100", func := "helmsman/helmsmantop.TopQuantsMoved", spec := "topQuantsMoved", unfollowed := true, recurses := true, apart := false }
def TopQuantsMovedSaid : Prop := topQuantsMovedRow.holds Try.pinned (OpenSpec.ofChange topQuantsMovedSpec)

/-- ITS FALSE NEIGHBOUR: 'it returns false'. Refute it at one input. -/
def topQuantsMovedWrong : ChangeSpec := { name := "topQuantsMoved", fn := fun _ => fun
  | [d1, d2, d3, d4, d5] => { results := [.lit (.bool false)], args := [d1, d2, d3, d4, d5] }
  | _ => none }
def TopQuantsMovedWrongFalsely : Prop := topQuantsMovedRow.holds Try.pinned (OpenSpec.ofChange topQuantsMovedWrong)

/-- 'helmsmantop.TopQuantsSwapped': WHATEVER THE INPUT: true; the input reads as it did. -/
def topQuantsSwappedSpec : ChangeSpec := { name := "topQuantsSwapped", fn := fun _ => fun
  | [d1, d2, d3, d4, d5] => { results := [.lit (.bool true)], args := [d1, d2, d3, d4, d5] }
  | _ => none }
def topQuantsSwappedRow : OpenClaim := { program := "ytodlkjjoenglgaa", sum := "f4be72ac82ed1e939fb9f6c7440337322f747334a418d1e0214f1dd31008a100", func := "helmsman/helmsmantop.TopQuantsSwapped", spec := "topQuantsSwapped", unfollowed := true, recurses := true, apart := false }
def TopQuantsSwappedSaid : Prop := topQuantsSwappedRow.holds Try.pinned (OpenSpec.ofChange topQuantsSwappedSpec)

/-- ITS FALSE NEIGHBOUR: 'it returns false'. Refute it at one input. -/
def topQuantsSwappedWrong : ChangeSpec := { name := "topQuantsSwapped", fn := fun _ => fun
  | [d1, d2, d3, d4, d5] => { results := [.lit (.bool false)], args := [d1, d2, d3, d4, d5] }
  | _ => none }
def TopQuantsSwappedWrongFalsely : Prop := topQuantsSwappedRow.holds Try.pinned (OpenSpec.ofChange topQuantsSwappedWrong)

/-- 'helmsmantop.TopEqualsHeld': WHATEVER THE INPUT: true; the input reads as it did. -/
def topEqualsHeldSpec : ChangeSpec := { name := "topEqualsHeld", fn := fun _ => fun
  | [d1, d2, d3, d4, d5, d6, d7] => { results := [.lit (.bool true)], args := [d1, d2, d3, d4, d5, d6, d7] }
  | _ => none }
def topEqualsHeldRow : OpenClaim := { program := "ytodlkjjoenglgaa", sum := "f4be72ac82ed1e939fb9f6c7440337322f747334a418d1e0214f1dd31008a100", func := "helmsman/helmsmantop.TopEqualsHeld", spec := "topEqualsHeld", unfollowed := true, recurses := true, apart := false }
def TopEqualsHeldSaid : Prop := topEqualsHeldRow.holds Try.pinned (OpenSpec.ofChange topEqualsHeldSpec)

/-- ITS FALSE NEIGHBOUR: 'it returns false'. Refute it at one input. -/
def topEqualsHeldWrong : ChangeSpec := { name := "topEqualsHeld", fn := fun _ => fun
  | [d1, d2, d3, d4, d5, d6, d7] => { results := [.lit (.bool false)], args := [d1, d2, d3, d4, d5, d6, d7] }
  | _ => none }
def TopEqualsHeldWrongFalsely : Prop := topEqualsHeldRow.holds Try.pinned (OpenSpec.ofChange topEqualsHeldWrong)

/-- 'helmsmantop.TopCondsTurned': WHATEVER THE INPUT: true; the input reads as it did. -/
def topCondsTurnedSpec : ChangeSpec := { name := "topCondsTurned", fn := fun _ => fun
  | [d1, d2, d3, d4, d5, d6, d7] => { results := [.lit (.bool true)], args := [d1, d2, d3, d4, d5, d6, d7] }
  | _ => none }
def topCondsTurnedRow : OpenClaim := { program := "ytodlkjjoenglgaa", sum := "f4be72ac82ed1e939fb9f6c7440337322f747334a418d1e0214f1dd31008a100", func := "helmsman/helmsmantop.TopCondsTurned", spec := "topCondsTurned", unfollowed := true, recurses := true, apart := false }
def TopCondsTurnedSaid : Prop := topCondsTurnedRow.holds Try.pinned (OpenSpec.ofChange topCondsTurnedSpec)

/-- ITS FALSE NEIGHBOUR: 'it returns false'. Refute it at one input. -/
def topCondsTurnedWrong : ChangeSpec := { name := "topCondsTurned", fn := fun _ => fun
  | [d1, d2, d3, d4, d5, d6, d7] => { results := [.lit (.bool false)], args := [d1, d2, d3, d4, d5, d6, d7] }
  | _ => none }
def TopCondsTurnedWrongFalsely : Prop := topCondsTurnedRow.holds Try.pinned (OpenSpec.ofChange topCondsTurnedWrong)

/-- 'helmsmantop.TopCondsAbsorbed': WHATEVER THE INPUT: true; the input reads as it did. -/
def topCondsAbsorbedSpec : ChangeSpec := { name := "topCondsAbsorbed", fn := fun _ => fun
  | [d1, d2, d3, d4, d5, d6, d7] => { results := [.lit (.bool true)], args := [d1, d2, d3, d4, d5, d6, d7] }
  | _ => none }
def topCondsAbsorbedRow : OpenClaim := { program := "ytodlkjjoenglgaa", sum := "f4be72ac82ed1e939fb9f6c7440337322f747334a418d1e0214f1dd31008a100", func := "helmsman/helmsmantop.TopCondsAbsorbed", spec := "topCondsAbsorbed", unfollowed := true, recurses := true, apart := false }
def TopCondsAbsorbedSaid : Prop := topCondsAbsorbedRow.holds Try.pinned (OpenSpec.ofChange topCondsAbsorbedSpec)

/-- ITS FALSE NEIGHBOUR: 'it returns false'. Refute it at one input. -/
def topCondsAbsorbedWrong : ChangeSpec := { name := "topCondsAbsorbed", fn := fun _ => fun
  | [d1, d2, d3, d4, d5, d6, d7] => { results := [.lit (.bool false)], args := [d1, d2, d3, d4, d5, d6, d7] }
  | _ => none }
def TopCondsAbsorbedWrongFalsely : Prop := topCondsAbsorbedRow.holds Try.pinned (OpenSpec.ofChange topCondsAbsorbedWrong)

/-- 'helmsmantop.TopQuantsIdle': WHATEVER THE INPUT: true; the input reads as it did. -/
def topQuantsIdleSpec : ChangeSpec := { name := "topQuantsIdle", fn := fun _ => fun
  | [d1, d2, d3, d4, d5, d6, d7] => { results := [.lit (.bool true)], args := [d1, d2, d3, d4, d5, d6, d7] }
  | _ => none }
def topQuantsIdleRow : OpenClaim := { program := "ytodlkjjoenglgaa", sum := "f4be72ac82ed1e939fb9f6c7440337322f747334a418d1e0214f1dd31008a100", func := "helmsman/helmsmantop.TopQuantsIdle", spec := "topQuantsIdle", unfollowed := true, recurses := true, apart := false }
def TopQuantsIdleSaid : Prop := topQuantsIdleRow.holds Try.pinned (OpenSpec.ofChange topQuantsIdleSpec)

/-- ITS FALSE NEIGHBOUR: 'it returns false'. Refute it at one input. -/
def topQuantsIdleWrong : ChangeSpec := { name := "topQuantsIdle", fn := fun _ => fun
  | [d1, d2, d3, d4, d5, d6, d7] => { results := [.lit (.bool false)], args := [d1, d2, d3, d4, d5, d6, d7] }
  | _ => none }
def TopQuantsIdleWrongFalsely : Prop := topQuantsIdleRow.holds Try.pinned (OpenSpec.ofChange topQuantsIdleWrong)

/-- 'helmsmantop.TopQuantsListed': WHATEVER THE INPUT: true; the input reads as it did. -/
def topQuantsListedSpec : ChangeSpec := { name := "topQuantsListed", fn := fun _ => fun
  | [d1, d2, d3, d4, d5] => { results := [.lit (.bool true)], args := [d1, d2, d3, d4, d5] }
  | _ => none }
def topQuantsListedRow : OpenClaim := { program := "ytodlkjjoenglgaa", sum := "f4be72ac82ed1e939fb9f6c7440337322f747334a418d1e0214f1dd31008a100", func := "helmsman/helmsmantop.TopQuantsListed", spec := "topQuantsListed", unfollowed := true, recurses := true, apart := false }
def TopQuantsListedSaid : Prop := topQuantsListedRow.holds Try.pinned (OpenSpec.ofChange topQuantsListedSpec)

/-- ITS FALSE NEIGHBOUR: 'it returns false'. Refute it at one input. -/
def topQuantsListedWrong : ChangeSpec := { name := "topQuantsListed", fn := fun _ => fun
  | [d1, d2, d3, d4, d5] => { results := [.lit (.bool false)], args := [d1, d2, d3, d4, d5] }
  | _ => none }
def TopQuantsListedWrongFalsely : Prop := topQuantsListedRow.holds Try.pinned (OpenSpec.ofChange topQuantsListedWrong)

/-- 'helmsmantop.TopCondsFlat': WHATEVER THE INPUT: true; the input reads as it did. -/
def topCondsFlatSpec : ChangeSpec := { name := "topCondsFlat", fn := fun _ => fun
  | [d1, d2, d3, d4, d5] => { results := [.lit (.bool true)], args := [d1, d2, d3, d4, d5] }
  | _ => none }
def topCondsFlatRow : OpenClaim := { program := "ytodlkjjoenglgaa", sum := "f4be72ac82ed1e939fb9f6c7440337322f747334a418d1e0214f1dd31008a100", func := "helmsman/helmsmantop.TopCondsFlat", spec := "topCondsFlat", unfollowed := true, recurses := true, apart := false }
def TopCondsFlatSaid : Prop := topCondsFlatRow.holds Try.pinned (OpenSpec.ofChange topCondsFlatSpec)

/-- ITS FALSE NEIGHBOUR: 'it returns false'. Refute it at one input. -/
def topCondsFlatWrong : ChangeSpec := { name := "topCondsFlat", fn := fun _ => fun
  | [d1, d2, d3, d4, d5] => { results := [.lit (.bool false)], args := [d1, d2, d3, d4, d5] }
  | _ => none }
def TopCondsFlatWrongFalsely : Prop := topCondsFlatRow.holds Try.pinned (OpenSpec.ofChange topCondsFlatWrong)

/- THE SECOND FORM. 'bulk': how many values and letters a reading holds, each counted each time it is reached (what is shared counts as often as it is met; a slice's spare places count too). A statement '..UptoSaid' is the law's where the arguments, and the package variables that the reading takes, are together of bulk at most 1048576: NARROWER than '..Said'. Prove '..Said' where nothing that the law and all that it calls make is longer than what came in: it says more and counts as full. Else prove '..UptoSaid'. A law counts once. -/
mutual
def uptoBulk {H : Type} : DataW H → Nat
  | .lit (.string bytes) => bytes.length + 1
  | .lit _ => 1
  | .nil => 1
  | .ptr d => uptoBulk d + 1
  | .slice elems spare => uptoBulkAll elems + uptoBulkAll spare + 1
  | .agg parts => uptoBulkAll parts + 1
  | .iface _ d => uptoBulk d + 1
  | .map entries => uptoBulkEntries entries + 1
  | .held _ => 1
def uptoBulkAll {H : Type} : List (DataW H) → Nat
  | [] => 0
  | d :: r => uptoBulk d + uptoBulkAll r
def uptoBulkEntries {H : Type} : List (Lit × DataW H) → Nat
  | [] => 0
  | x :: r => uptoBulkEntry x + uptoBulkEntries r
def uptoBulkEntry {H : Type} : Lit × DataW H → Nat
  | (.string bytes, d) => bytes.length + uptoBulk d + 1
  | (_, d) => uptoBulk d + 1
 end
def uptoSmall : (H : Type) → List (DataW H) → Bool := fun _ ds => decide (uptoBulkAll ds ≤ 1048576)
def OpenSpec.upto (s : _root_.Go.ChangeSpec) : _root_.Go.OpenSpec := { _root_.Go.OpenSpec.ofChange s with cond := some uptoSmall }

/-- 'helmsmantop.TopCondsKept', WHERE WHAT IT READS IS OF BULK AT MOST 1048576: true; the input reads as it did. -/
def topCondsKeptUptoRow : OpenClaim := { program := "ytodlkjjoenglgaa", sum := "f4be72ac82ed1e939fb9f6c7440337322f747334a418d1e0214f1dd31008a100", func := "helmsman/helmsmantop.TopCondsKept", spec := "topCondsKept", unfollowed := true, recurses := true, apart := false, narrowed := true }
def TopCondsKeptUptoSaid : Prop := topCondsKeptUptoRow.holds Try.pinned (OpenSpec.upto topCondsKeptSpec)

/-- 'helmsmantop.TopCondsDenied', WHERE WHAT IT READS IS OF BULK AT MOST 1048576: true; the input reads as it did. -/
def topCondsDeniedUptoRow : OpenClaim := { program := "ytodlkjjoenglgaa", sum := "f4be72ac82ed1e939fb9f6c7440337322f747334a418d1e0214f1dd31008a100", func := "helmsman/helmsmantop.TopCondsDenied", spec := "topCondsDenied", unfollowed := true, recurses := true, apart := false, narrowed := true }
def TopCondsDeniedUptoSaid : Prop := topCondsDeniedUptoRow.holds Try.pinned (OpenSpec.upto topCondsDeniedSpec)

/-- 'helmsmantop.TopCondsDistributed', WHERE WHAT IT READS IS OF BULK AT MOST 1048576: true; the input reads as it did. -/
def topCondsDistributedUptoRow : OpenClaim := { program := "ytodlkjjoenglgaa", sum := "f4be72ac82ed1e939fb9f6c7440337322f747334a418d1e0214f1dd31008a100", func := "helmsman/helmsmantop.TopCondsDistributed", spec := "topCondsDistributed", unfollowed := true, recurses := true, apart := false, narrowed := true }
def TopCondsDistributedUptoSaid : Prop := topCondsDistributedUptoRow.holds Try.pinned (OpenSpec.upto topCondsDistributedSpec)

/-- 'helmsmantop.TopQuantsParted', WHERE WHAT IT READS IS OF BULK AT MOST 1048576: true; the input reads as it did. -/
def topQuantsPartedUptoRow : OpenClaim := { program := "ytodlkjjoenglgaa", sum := "f4be72ac82ed1e939fb9f6c7440337322f747334a418d1e0214f1dd31008a100", func := "helmsman/helmsmantop.TopQuantsParted", spec := "topQuantsParted", unfollowed := true, recurses := true, apart := false, narrowed := true }
def TopQuantsPartedUptoSaid : Prop := topQuantsPartedUptoRow.holds Try.pinned (OpenSpec.upto topQuantsPartedSpec)

/-- 'helmsmantop.TopQuantsMoved', WHERE WHAT IT READS IS OF BULK AT MOST 1048576: true; the input reads as it did. -/
def topQuantsMovedUptoRow : OpenClaim := { program := "ytodlkjjoenglgaa", sum := "f4be72ac82ed1e939fb9f6c7440337322f747334a418d1e0214f1dd31008a100", func := "helmsman/helmsmantop.TopQuantsMoved", spec := "topQuantsMoved", unfollowed := true, recurses := true, apart := false, narrowed := true }
def TopQuantsMovedUptoSaid : Prop := topQuantsMovedUptoRow.holds Try.pinned (OpenSpec.upto topQuantsMovedSpec)

/-- 'helmsmantop.TopQuantsSwapped', WHERE WHAT IT READS IS OF BULK AT MOST 1048576: true; the input reads as it did. -/
def topQuantsSwappedUptoRow : OpenClaim := { program := "ytodlkjjoenglgaa", sum := "f4be72ac82ed1e939fb9f6c7440337322f747334a418d1e0214f1dd31008a100", func := "helmsman/helmsmantop.TopQuantsSwapped", spec := "topQuantsSwapped", unfollowed := true, recurses := true, apart := false, narrowed := true }
def TopQuantsSwappedUptoSaid : Prop := topQuantsSwappedUptoRow.holds Try.pinned (OpenSpec.upto topQuantsSwappedSpec)

/-- 'helmsmantop.TopEqualsHeld', WHERE WHAT IT READS IS OF BULK AT MOST 1048576: true; the input reads as it did. -/
def topEqualsHeldUptoRow : OpenClaim := { program := "ytodlkjjoenglgaa", sum := "f4be72ac82ed1e939fb9f6c7440337322f747334a418d1e0214f1dd31008a100", func := "helmsman/helmsmantop.TopEqualsHeld", spec := "topEqualsHeld", unfollowed := true, recurses := true, apart := false, narrowed := true }
def TopEqualsHeldUptoSaid : Prop := topEqualsHeldUptoRow.holds Try.pinned (OpenSpec.upto topEqualsHeldSpec)

/-- 'helmsmantop.TopCondsTurned', WHERE WHAT IT READS IS OF BULK AT MOST 1048576: true; the input reads as it did. -/
def topCondsTurnedUptoRow : OpenClaim := { program := "ytodlkjjoenglgaa", sum := "f4be72ac82ed1e939fb9f6c7440337322f747334a418d1e0214f1dd31008a100", func := "helmsman/helmsmantop.TopCondsTurned", spec := "topCondsTurned", unfollowed := true, recurses := true, apart := false, narrowed := true }
def TopCondsTurnedUptoSaid : Prop := topCondsTurnedUptoRow.holds Try.pinned (OpenSpec.upto topCondsTurnedSpec)

/-- 'helmsmantop.TopCondsAbsorbed', WHERE WHAT IT READS IS OF BULK AT MOST 1048576: true; the input reads as it did. -/
def topCondsAbsorbedUptoRow : OpenClaim := { program := "ytodlkjjoenglgaa", sum := "f4be72ac82ed1e939fb9f6c7440337322f747334a418d1e0214f1dd31008a100", func := "helmsman/helmsmantop.TopCondsAbsorbed", spec := "topCondsAbsorbed", unfollowed := true, recurses := true, apart := false, narrowed := true }
def TopCondsAbsorbedUptoSaid : Prop := topCondsAbsorbedUptoRow.holds Try.pinned (OpenSpec.upto topCondsAbsorbedSpec)

/-- 'helmsmantop.TopQuantsIdle', WHERE WHAT IT READS IS OF BULK AT MOST 1048576: true; the input reads as it did. -/
def topQuantsIdleUptoRow : OpenClaim := { program := "ytodlkjjoenglgaa", sum := "f4be72ac82ed1e939fb9f6c7440337322f747334a418d1e0214f1dd31008a100", func := "helmsman/helmsmantop.TopQuantsIdle", spec := "topQuantsIdle", unfollowed := true, recurses := true, apart := false, narrowed := true }
def TopQuantsIdleUptoSaid : Prop := topQuantsIdleUptoRow.holds Try.pinned (OpenSpec.upto topQuantsIdleSpec)

/-- 'helmsmantop.TopQuantsListed', WHERE WHAT IT READS IS OF BULK AT MOST 1048576: true; the input reads as it did. -/
def topQuantsListedUptoRow : OpenClaim := { program := "ytodlkjjoenglgaa", sum := "f4be72ac82ed1e939fb9f6c7440337322f747334a418d1e0214f1dd31008a100", func := "helmsman/helmsmantop.TopQuantsListed", spec := "topQuantsListed", unfollowed := true, recurses := true, apart := false, narrowed := true }
def TopQuantsListedUptoSaid : Prop := topQuantsListedUptoRow.holds Try.pinned (OpenSpec.upto topQuantsListedSpec)

/-- 'helmsmantop.TopCondsFlat', WHERE WHAT IT READS IS OF BULK AT MOST 1048576: true; the input reads as it did. -/
def topCondsFlatUptoRow : OpenClaim := { program := "ytodlkjjoenglgaa", sum := "f4be72ac82ed1e939fb9f6c7440337322f747334a418d1e0214f1dd31008a100", func := "helmsman/helmsmantop.TopCondsFlat", spec := "topCondsFlat", unfollowed := true, recurses := true, apart := false, narrowed := true }
def TopCondsFlatUptoSaid : Prop := topCondsFlatUptoRow.holds Try.pinned (OpenSpec.upto topCondsFlatSpec)

end Rows
end Go.Proofs.Ytodlkjjoenglgaa
