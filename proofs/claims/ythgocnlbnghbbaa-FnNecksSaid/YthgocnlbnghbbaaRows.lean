/-
  No cell of these rows narrows 'for every input' (looked for: loops, veiled, ifaces, maps, wideKeys, modest, calm, conditions, laid).
  DERIVED. THE GIVEN ROWS OF THIS SEAT. 10 by the template 'for every input the law returns true; each argument reads behind the call as it read before'; 0 by the template 'total and deterministic' (their statements: YthgocnlbnghbbaaTotals.lean).
  GIVEN WITH THE SEED: the statements are not yours to turn. If you find one false, say at which input.
  Laid BY PROGRAM, IN A SANDBOX (cutbox-rows.mjs): the forced cells as the released guide's own fill.sh prints them over the translation fc6861b8e0be0d32… (all of the seat's roots in one cut). By AI agents, Wed Nov 11 2026. No macro, syntax, notation, axiom, sorry.
-/
import Derived.Test.YthgocnlbnghbbaaChecked
import GoSem.Claim
import GoSem.ClaimJoined
import GoSem.ClaimMapViews
import Derived.JoinedTies
import Derived.KernelRfl
namespace Go.Proofs.Ythgocnlbnghbbaa
/- THE CELL 'sum', in the pinned program and in every row, IS THE sha256 OF THE DUMP (.gsa) THAT YthgocnlbnghbbaaProg.lean LOADS. Nothing in Lean hashes anything: it is a label: what it is worth is what the hold of that sum in a sandbox is worth. -/
noncomputable def Try.pinned : Pinned := { name := "ythgocnlbnghbbaa", sum := "fc6861b8e0be0d32b572a2f7fa7f07ccc83991a33c4040b39d89d750f8d407ba", checked := Try.checked }
namespace Rows
def none {H : Type} : Left H := { results := [], args := [] }

/-- 'laws.FnNecks': WHATEVER THE INPUT: true; the input reads as it did. -/
def fnNecksSpec : ChangeSpec := { name := "fnNecks", fn := fun _ => fun
  | [d1, d2] => { results := [.lit (.bool true)], args := [d1, d2] }
  | _ => none }
def fnNecksRow : OpenClaim := { program := "ythgocnlbnghbbaa", sum := "fc6861b8e0be0d32b572a2f7fa7f07ccc83991a33c4040b39d89d750f8d407ba", func := "loop.example/g01222/laws.FnNecks", spec := "fnNecks", inPlace := ["math.Float64frombits", "math.Float64bits", "math.sqrt"], unfollowed := true, recurses := true, apart := false }
def FnNecksSaid : Prop := fnNecksRow.holds Try.pinned (OpenSpec.ofChange fnNecksSpec)

/-- ITS FALSE NEIGHBOUR: 'it returns false'. Refute it at one input. -/
def fnNecksWrong : ChangeSpec := { name := "fnNecks", fn := fun _ => fun
  | [d1, d2] => { results := [.lit (.bool false)], args := [d1, d2] }
  | _ => none }
def FnNecksWrongFalsely : Prop := fnNecksRow.holds Try.pinned (OpenSpec.ofChange fnNecksWrong)

/-- 'laws.FnBubbles': WHATEVER THE INPUT: true; the input reads as it did. -/
def fnBubblesSpec : ChangeSpec := { name := "fnBubbles", fn := fun _ => fun
  | [d1, d2] => { results := [.lit (.bool true)], args := [d1, d2] }
  | _ => none }
def fnBubblesRow : OpenClaim := { program := "ythgocnlbnghbbaa", sum := "fc6861b8e0be0d32b572a2f7fa7f07ccc83991a33c4040b39d89d750f8d407ba", func := "loop.example/g01222/laws.FnBubbles", spec := "fnBubbles", inPlace := ["math.Float64frombits"], apart := false }
def FnBubblesSaid : Prop := fnBubblesRow.holds Try.pinned (OpenSpec.ofChange fnBubblesSpec)

/-- ITS FALSE NEIGHBOUR: 'it returns false'. Refute it at one input. -/
def fnBubblesWrong : ChangeSpec := { name := "fnBubbles", fn := fun _ => fun
  | [d1, d2] => { results := [.lit (.bool false)], args := [d1, d2] }
  | _ => none }
def FnBubblesWrongFalsely : Prop := fnBubblesRow.holds Try.pinned (OpenSpec.ofChange fnBubblesWrong)

/-- 'laws.FnMeets': WHATEVER THE INPUT: true; the input reads as it did. -/
def fnMeetsSpec : ChangeSpec := { name := "fnMeets", fn := fun _ => fun
  | [d1, d2] => { results := [.lit (.bool true)], args := [d1, d2] }
  | _ => none }
def fnMeetsRow : OpenClaim := { program := "ythgocnlbnghbbaa", sum := "fc6861b8e0be0d32b572a2f7fa7f07ccc83991a33c4040b39d89d750f8d407ba", func := "loop.example/g01222/laws.FnMeets", spec := "fnMeets", inPlace := ["math.sqrt", "math.Float64frombits", "math.Float64bits"], apart := false }
def FnMeetsSaid : Prop := fnMeetsRow.holds Try.pinned (OpenSpec.ofChange fnMeetsSpec)

/-- ITS FALSE NEIGHBOUR: 'it returns false'. Refute it at one input. -/
def fnMeetsWrong : ChangeSpec := { name := "fnMeets", fn := fun _ => fun
  | [d1, d2] => { results := [.lit (.bool false)], args := [d1, d2] }
  | _ => none }
def FnMeetsWrongFalsely : Prop := fnMeetsRow.holds Try.pinned (OpenSpec.ofChange fnMeetsWrong)

/-- 'laws.FnExactSwingOf': WHATEVER THE INPUT: true; the input reads as it did. -/
def fnExactSwingOfSpec : ChangeSpec := { name := "fnExactSwingOf", fn := fun _ => fun
  | [d1, d2] => { results := [.lit (.bool true)], args := [d1, d2] }
  | _ => none }
def fnExactSwingOfRow : OpenClaim := { program := "ythgocnlbnghbbaa", sum := "fc6861b8e0be0d32b572a2f7fa7f07ccc83991a33c4040b39d89d750f8d407ba", func := "loop.example/g01222/laws.FnExactSwingOf", spec := "fnExactSwingOf", inPlace := ["math.sqrt"], apart := false }
def FnExactSwingOfSaid : Prop := fnExactSwingOfRow.holds Try.pinned (OpenSpec.ofChange fnExactSwingOfSpec)

/-- ITS FALSE NEIGHBOUR: 'it returns false'. Refute it at one input. -/
def fnExactSwingOfWrong : ChangeSpec := { name := "fnExactSwingOf", fn := fun _ => fun
  | [d1, d2] => { results := [.lit (.bool false)], args := [d1, d2] }
  | _ => none }
def FnExactSwingOfWrongFalsely : Prop := fnExactSwingOfRow.holds Try.pinned (OpenSpec.ofChange fnExactSwingOfWrong)

/-- 'laws.FnExactPathLong': WHATEVER THE INPUT: true; the input reads as it did. -/
def fnExactPathLongSpec : ChangeSpec := { name := "fnExactPathLong", fn := fun _ => fun
  | [d1, d2, d3, d4] => { results := [.lit (.bool true)], args := [d1, d2, d3, d4] }
  | _ => none }
def fnExactPathLongRow : OpenClaim := { program := "ythgocnlbnghbbaa", sum := "fc6861b8e0be0d32b572a2f7fa7f07ccc83991a33c4040b39d89d750f8d407ba", func := "loop.example/g01222/laws.FnExactPathLong", spec := "fnExactPathLong", inPlace := ["math.sqrt"], apart := false }
def FnExactPathLongSaid : Prop := fnExactPathLongRow.holds Try.pinned (OpenSpec.ofChange fnExactPathLongSpec)

/-- ITS FALSE NEIGHBOUR: 'it returns false'. Refute it at one input. -/
def fnExactPathLongWrong : ChangeSpec := { name := "fnExactPathLong", fn := fun _ => fun
  | [d1, d2, d3, d4] => { results := [.lit (.bool false)], args := [d1, d2, d3, d4] }
  | _ => none }
def FnExactPathLongWrongFalsely : Prop := fnExactPathLongRow.holds Try.pinned (OpenSpec.ofChange fnExactPathLongWrong)

/-- 'laws.FnExactNeckOf': WHATEVER THE INPUT: true; the input reads as it did. -/
def fnExactNeckOfSpec : ChangeSpec := { name := "fnExactNeckOf", fn := fun _ => fun
  | [d1, d2] => { results := [.lit (.bool true)], args := [d1, d2] }
  | _ => none }
def fnExactNeckOfRow : OpenClaim := { program := "ythgocnlbnghbbaa", sum := "fc6861b8e0be0d32b572a2f7fa7f07ccc83991a33c4040b39d89d750f8d407ba", func := "loop.example/g01222/laws.FnExactNeckOf", spec := "fnExactNeckOf", inPlace := ["math.Float64frombits"], apart := false }
def FnExactNeckOfSaid : Prop := fnExactNeckOfRow.holds Try.pinned (OpenSpec.ofChange fnExactNeckOfSpec)

/-- ITS FALSE NEIGHBOUR: 'it returns false'. Refute it at one input. -/
def fnExactNeckOfWrong : ChangeSpec := { name := "fnExactNeckOf", fn := fun _ => fun
  | [d1, d2] => { results := [.lit (.bool false)], args := [d1, d2] }
  | _ => none }
def FnExactNeckOfWrongFalsely : Prop := fnExactNeckOfRow.holds Try.pinned (OpenSpec.ofChange fnExactNeckOfWrong)

/-- 'laws.FnExactIsHolding': WHATEVER THE INPUT: true; the input reads as it did. -/
def fnExactIsHoldingSpec : ChangeSpec := { name := "fnExactIsHolding", fn := fun _ => fun
  | [d1, d2] => { results := [.lit (.bool true)], args := [d1, d2] }
  | _ => none }
def fnExactIsHoldingRow : OpenClaim := { program := "ythgocnlbnghbbaa", sum := "fc6861b8e0be0d32b572a2f7fa7f07ccc83991a33c4040b39d89d750f8d407ba", func := "loop.example/g01222/laws.FnExactIsHolding", spec := "fnExactIsHolding", inPlace := ["math.Float64frombits"], apart := false }
def FnExactIsHoldingSaid : Prop := fnExactIsHoldingRow.holds Try.pinned (OpenSpec.ofChange fnExactIsHoldingSpec)

/-- ITS FALSE NEIGHBOUR: 'it returns false'. Refute it at one input. -/
def fnExactIsHoldingWrong : ChangeSpec := { name := "fnExactIsHolding", fn := fun _ => fun
  | [d1, d2] => { results := [.lit (.bool false)], args := [d1, d2] }
  | _ => none }
def FnExactIsHoldingWrongFalsely : Prop := fnExactIsHoldingRow.holds Try.pinned (OpenSpec.ofChange fnExactIsHoldingWrong)

/-- 'laws.FnExactMeetRest': WHATEVER THE INPUT: true; the input reads as it did. -/
def fnExactMeetRestSpec : ChangeSpec := { name := "fnExactMeetRest", fn := fun _ => fun
  | [d1, d2, d3] => { results := [.lit (.bool true)], args := [d1, d2, d3] }
  | _ => none }
def fnExactMeetRestRow : OpenClaim := { program := "ythgocnlbnghbbaa", sum := "fc6861b8e0be0d32b572a2f7fa7f07ccc83991a33c4040b39d89d750f8d407ba", func := "loop.example/g01222/laws.FnExactMeetRest", spec := "fnExactMeetRest", inPlace := ["math.sqrt"], apart := false }
def FnExactMeetRestSaid : Prop := fnExactMeetRestRow.holds Try.pinned (OpenSpec.ofChange fnExactMeetRestSpec)

/-- ITS FALSE NEIGHBOUR: 'it returns false'. Refute it at one input. -/
def fnExactMeetRestWrong : ChangeSpec := { name := "fnExactMeetRest", fn := fun _ => fun
  | [d1, d2, d3] => { results := [.lit (.bool false)], args := [d1, d2, d3] }
  | _ => none }
def FnExactMeetRestWrongFalsely : Prop := fnExactMeetRestRow.holds Try.pinned (OpenSpec.ofChange fnExactMeetRestWrong)

/-- 'laws.FnExactBubbleRadius': WHATEVER THE INPUT: true; the input reads as it did. -/
def fnExactBubbleRadiusSpec : ChangeSpec := { name := "fnExactBubbleRadius", fn := fun _ => fun
  | [d] => { results := [.lit (.bool true)], args := [d] }
  | _ => none }
def fnExactBubbleRadiusRow : OpenClaim := { program := "ythgocnlbnghbbaa", sum := "fc6861b8e0be0d32b572a2f7fa7f07ccc83991a33c4040b39d89d750f8d407ba", func := "loop.example/g01222/laws.FnExactBubbleRadius", spec := "fnExactBubbleRadius", inPlace := ["math.Float64frombits", "math.Float64bits"], apart := false }
def FnExactBubbleRadiusSaid : Prop := fnExactBubbleRadiusRow.holds Try.pinned (OpenSpec.ofChange fnExactBubbleRadiusSpec)

/-- ITS FALSE NEIGHBOUR: 'it returns false'. Refute it at one input. -/
def fnExactBubbleRadiusWrong : ChangeSpec := { name := "fnExactBubbleRadius", fn := fun _ => fun
  | [d] => { results := [.lit (.bool false)], args := [d] }
  | _ => none }
def FnExactBubbleRadiusWrongFalsely : Prop := fnExactBubbleRadiusRow.holds Try.pinned (OpenSpec.ofChange fnExactBubbleRadiusWrong)

/-- 'laws.FnExactMeetPoint': WHATEVER THE INPUT: true; the input reads as it did. -/
def fnExactMeetPointSpec : ChangeSpec := { name := "fnExactMeetPoint", fn := fun _ => fun
  | [d1, d2, d3, d4] => { results := [.lit (.bool true)], args := [d1, d2, d3, d4] }
  | _ => none }
def fnExactMeetPointRow : OpenClaim := { program := "ythgocnlbnghbbaa", sum := "fc6861b8e0be0d32b572a2f7fa7f07ccc83991a33c4040b39d89d750f8d407ba", func := "loop.example/g01222/laws.FnExactMeetPoint", spec := "fnExactMeetPoint", inPlace := ["math.sqrt"], apart := false }
def FnExactMeetPointSaid : Prop := fnExactMeetPointRow.holds Try.pinned (OpenSpec.ofChange fnExactMeetPointSpec)

/-- ITS FALSE NEIGHBOUR: 'it returns false'. Refute it at one input. -/
def fnExactMeetPointWrong : ChangeSpec := { name := "fnExactMeetPoint", fn := fun _ => fun
  | [d1, d2, d3, d4] => { results := [.lit (.bool false)], args := [d1, d2, d3, d4] }
  | _ => none }
def FnExactMeetPointWrongFalsely : Prop := fnExactMeetPointRow.holds Try.pinned (OpenSpec.ofChange fnExactMeetPointWrong)

/- THE SECOND FORM. 'bulk': how many values and letters a reading holds, each counted each time it is reached (what is shared counts as often as it is met; a slice's spare places count too). A statement '..UptoSaid' is the law's where the arguments, and the package variables that the reading takes, are together of bulk at most 1048576: NARROWER than '..Said'. Prove '..Said' where nothing that the law and all that it calls make is longer than what came in: it says more and counts as full. Else prove '..UptoSaid'. A law counts once. -/
mutual
def uptoBulk {H : Type} : DataW H → Nat
  | .lit (.string bytes) => bytes.length + 1
  | .lit _ => 1
  | .nil => 1
  | .ptr d => uptoBulk d + 1
  | .slice elems spare => uptoBulkAll elems + uptoBulkAll spare + 1
  | .agg parts => uptoBulkAll parts + 1
  | .iface _ d => uptoBulk d + 1
  | .map entries => uptoBulkEntries entries + 1
  | .held _ => 1
def uptoBulkAll {H : Type} : List (DataW H) → Nat
  | [] => 0
  | d :: r => uptoBulk d + uptoBulkAll r
def uptoBulkEntries {H : Type} : List (Lit × DataW H) → Nat
  | [] => 0
  | x :: r => uptoBulkEntry x + uptoBulkEntries r
def uptoBulkEntry {H : Type} : Lit × DataW H → Nat
  | (.string bytes, d) => bytes.length + uptoBulk d + 1
  | (_, d) => uptoBulk d + 1
 end
def uptoSmall : (H : Type) → List (DataW H) → Bool := fun _ ds => decide (uptoBulkAll ds ≤ 1048576)
def OpenSpec.upto (s : _root_.Go.ChangeSpec) : _root_.Go.OpenSpec := { _root_.Go.OpenSpec.ofChange s with cond := some uptoSmall }

/-- 'laws.FnNecks', WHERE WHAT IT READS IS OF BULK AT MOST 1048576: true; the input reads as it did. -/
def fnNecksUptoRow : OpenClaim := { program := "ythgocnlbnghbbaa", sum := "fc6861b8e0be0d32b572a2f7fa7f07ccc83991a33c4040b39d89d750f8d407ba", func := "loop.example/g01222/laws.FnNecks", spec := "fnNecks", inPlace := ["math.Float64frombits", "math.Float64bits", "math.sqrt"], unfollowed := true, recurses := true, apart := false, narrowed := true }
def FnNecksUptoSaid : Prop := fnNecksUptoRow.holds Try.pinned (OpenSpec.upto fnNecksSpec)

/-- 'laws.FnBubbles', WHERE WHAT IT READS IS OF BULK AT MOST 1048576: true; the input reads as it did. -/
def fnBubblesUptoRow : OpenClaim := { program := "ythgocnlbnghbbaa", sum := "fc6861b8e0be0d32b572a2f7fa7f07ccc83991a33c4040b39d89d750f8d407ba", func := "loop.example/g01222/laws.FnBubbles", spec := "fnBubbles", inPlace := ["math.Float64frombits"], apart := false, narrowed := true }
def FnBubblesUptoSaid : Prop := fnBubblesUptoRow.holds Try.pinned (OpenSpec.upto fnBubblesSpec)

/-- 'laws.FnMeets', WHERE WHAT IT READS IS OF BULK AT MOST 1048576: true; the input reads as it did. -/
def fnMeetsUptoRow : OpenClaim := { program := "ythgocnlbnghbbaa", sum := "fc6861b8e0be0d32b572a2f7fa7f07ccc83991a33c4040b39d89d750f8d407ba", func := "loop.example/g01222/laws.FnMeets", spec := "fnMeets", inPlace := ["math.sqrt", "math.Float64frombits", "math.Float64bits"], apart := false, narrowed := true }
def FnMeetsUptoSaid : Prop := fnMeetsUptoRow.holds Try.pinned (OpenSpec.upto fnMeetsSpec)

/-- 'laws.FnExactSwingOf', WHERE WHAT IT READS IS OF BULK AT MOST 1048576: true; the input reads as it did. -/
def fnExactSwingOfUptoRow : OpenClaim := { program := "ythgocnlbnghbbaa", sum := "fc6861b8e0be0d32b572a2f7fa7f07ccc83991a33c4040b39d89d750f8d407ba", func := "loop.example/g01222/laws.FnExactSwingOf", spec := "fnExactSwingOf", inPlace := ["math.sqrt"], apart := false, narrowed := true }
def FnExactSwingOfUptoSaid : Prop := fnExactSwingOfUptoRow.holds Try.pinned (OpenSpec.upto fnExactSwingOfSpec)

/-- 'laws.FnExactPathLong', WHERE WHAT IT READS IS OF BULK AT MOST 1048576: true; the input reads as it did. -/
def fnExactPathLongUptoRow : OpenClaim := { program := "ythgocnlbnghbbaa", sum := "fc6861b8e0be0d32b572a2f7fa7f07ccc83991a33c4040b39d89d750f8d407ba", func := "loop.example/g01222/laws.FnExactPathLong", spec := "fnExactPathLong", inPlace := ["math.sqrt"], apart := false, narrowed := true }
def FnExactPathLongUptoSaid : Prop := fnExactPathLongUptoRow.holds Try.pinned (OpenSpec.upto fnExactPathLongSpec)

/-- 'laws.FnExactNeckOf', WHERE WHAT IT READS IS OF BULK AT MOST 1048576: true; the input reads as it did. -/
def fnExactNeckOfUptoRow : OpenClaim := { program := "ythgocnlbnghbbaa", sum := "fc6861b8e0be0d32b572a2f7fa7f07ccc83991a33c4040b39d89d750f8d407ba", func := "loop.example/g01222/laws.FnExactNeckOf", spec := "fnExactNeckOf", inPlace := ["math.Float64frombits"], apart := false, narrowed := true }
def FnExactNeckOfUptoSaid : Prop := fnExactNeckOfUptoRow.holds Try.pinned (OpenSpec.upto fnExactNeckOfSpec)

/-- 'laws.FnExactIsHolding', WHERE WHAT IT READS IS OF BULK AT MOST 1048576: true; the input reads as it did. -/
def fnExactIsHoldingUptoRow : OpenClaim := { program := "ythgocnlbnghbbaa", sum := "fc6861b8e0be0d32b572a2f7fa7f07ccc83991a33c4040b39d89d750f8d407ba", func := "loop.example/g01222/laws.FnExactIsHolding", spec := "fnExactIsHolding", inPlace := ["math.Float64frombits"], apart := false, narrowed := true }
def FnExactIsHoldingUptoSaid : Prop := fnExactIsHoldingUptoRow.holds Try.pinned (OpenSpec.upto fnExactIsHoldingSpec)

/-- 'laws.FnExactMeetRest', WHERE WHAT IT READS IS OF BULK AT MOST 1048576: true; the input reads as it did. -/
def fnExactMeetRestUptoRow : OpenClaim := { program := "ythgocnlbnghbbaa", sum := "fc6861b8e0be0d32b572a2f7fa7f07ccc83991a33c4040b39d89d750f8d407ba", func := "loop.example/g01222/laws.FnExactMeetRest", spec := "fnExactMeetRest", inPlace := ["math.sqrt"], apart := false, narrowed := true }
def FnExactMeetRestUptoSaid : Prop := fnExactMeetRestUptoRow.holds Try.pinned (OpenSpec.upto fnExactMeetRestSpec)

/-- 'laws.FnExactBubbleRadius', WHERE WHAT IT READS IS OF BULK AT MOST 1048576: true; the input reads as it did. -/
def fnExactBubbleRadiusUptoRow : OpenClaim := { program := "ythgocnlbnghbbaa", sum := "fc6861b8e0be0d32b572a2f7fa7f07ccc83991a33c4040b39d89d750f8d407ba", func := "loop.example/g01222/laws.FnExactBubbleRadius", spec := "fnExactBubbleRadius", inPlace := ["math.Float64frombits", "math.Float64bits"], apart := false, narrowed := true }
def FnExactBubbleRadiusUptoSaid : Prop := fnExactBubbleRadiusUptoRow.holds Try.pinned (OpenSpec.upto fnExactBubbleRadiusSpec)

/-- 'laws.FnExactMeetPoint', WHERE WHAT IT READS IS OF BULK AT MOST 1048576: true; the input reads as it did. -/
def fnExactMeetPointUptoRow : OpenClaim := { program := "ythgocnlbnghbbaa", sum := "fc6861b8e0be0d32b572a2f7fa7f07ccc83991a33c4040b39d89d750f8d407ba", func := "loop.example/g01222/laws.FnExactMeetPoint", spec := "fnExactMeetPoint", inPlace := ["math.sqrt"], apart := false, narrowed := true }
def FnExactMeetPointUptoSaid : Prop := fnExactMeetPointUptoRow.holds Try.pinned (OpenSpec.upto fnExactMeetPointSpec)

end Rows
end Go.Proofs.Ythgocnlbnghbbaa
