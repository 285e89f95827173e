/-
  No cell of these rows narrows 'for every input' (looked for: loops, veiled, ifaces, maps, wideKeys, modest, calm, conditions, laid).
  DERIVED. THE GIVEN ROWS OF THIS SEAT. 12 by the template 'for every input the law returns true; each argument reads behind the call as it read before'; 0 by the template 'total and deterministic' (their statements: YtfpmhmngebnphaaTotals.lean).
  GIVEN WITH THE SEED: the statements are not yours to turn. If you find one false, say at which input.
  Laid BY PROGRAM, IN A SANDBOX (cutbox-rows.mjs): the forced cells as the released guide's own fill.sh prints them over the translation 447cacb349d4086d… (all of the seat's roots in one cut). By AI agents, Wed Nov 11 2026. No macro, syntax, notation, axiom, sorry.
-/
import Derived.Test.YtfpmhmngebnphaaChecked
import GoSem.Claim
import GoSem.ClaimJoined
import GoSem.ClaimMapViews
import Derived.JoinedTies
import Derived.KernelRfl
namespace Go.Proofs.Ytfpmhmngebnphaa
/- THE CELL 'sum', in the pinned program and in every row, IS THE sha256 OF THE DUMP (.gsa) THAT YtfpmhmngebnphaaProg.lean LOADS. Nothing in Lean hashes anything: it is a label: what it is worth is what the hold of that sum in a sandbox is worth. -/
noncomputable def Try.pinned : Pinned := { name := "ytfpmhmngebnphaa", sum := "447cacb349d4086d6ceb064a93f372fab2bb62fcba165f6458aedb3babbf82f8", checked := Try.checked }
namespace Rows
def none {H : Type} : Left H := { results := [], args := [] }

/-- 'laws.FnExactSharesOf': WHATEVER THE INPUT: true; the input reads as it did. -/
def fnExactSharesOfSpec : ChangeSpec := { name := "fnExactSharesOf", fn := fun _ => fun
  | [d1, d2] => { results := [.lit (.bool true)], args := [d1, d2] }
  | _ => none }
def fnExactSharesOfRow : OpenClaim := { program := "ytfpmhmngebnphaa", sum := "447cacb349d4086d6ceb064a93f372fab2bb62fcba165f6458aedb3babbf82f8", func := "loop.example/g01222/laws.FnExactSharesOf", spec := "fnExactSharesOf", apart := false }
def FnExactSharesOfSaid : Prop := fnExactSharesOfRow.holds Try.pinned (OpenSpec.ofChange fnExactSharesOfSpec)

/-- ITS FALSE NEIGHBOUR: 'it returns false'. Refute it at one input. -/
def fnExactSharesOfWrong : ChangeSpec := { name := "fnExactSharesOf", fn := fun _ => fun
  | [d1, d2] => { results := [.lit (.bool false)], args := [d1, d2] }
  | _ => none }
def FnExactSharesOfWrongFalsely : Prop := fnExactSharesOfRow.holds Try.pinned (OpenSpec.ofChange fnExactSharesOfWrong)

/-- 'laws.FnExactWithoutPart': WHATEVER THE INPUT: true; the input reads as it did. -/
def fnExactWithoutPartSpec : ChangeSpec := { name := "fnExactWithoutPart", fn := fun _ => fun
  | [d1, d2] => { results := [.lit (.bool true)], args := [d1, d2] }
  | _ => none }
def fnExactWithoutPartRow : OpenClaim := { program := "ytfpmhmngebnphaa", sum := "447cacb349d4086d6ceb064a93f372fab2bb62fcba165f6458aedb3babbf82f8", func := "loop.example/g01222/laws.FnExactWithoutPart", spec := "fnExactWithoutPart", apart := false }
def FnExactWithoutPartSaid : Prop := fnExactWithoutPartRow.holds Try.pinned (OpenSpec.ofChange fnExactWithoutPartSpec)

/-- ITS FALSE NEIGHBOUR: 'it returns false'. Refute it at one input. -/
def fnExactWithoutPartWrong : ChangeSpec := { name := "fnExactWithoutPart", fn := fun _ => fun
  | [d1, d2] => { results := [.lit (.bool false)], args := [d1, d2] }
  | _ => none }
def FnExactWithoutPartWrongFalsely : Prop := fnExactWithoutPartRow.holds Try.pinned (OpenSpec.ofChange fnExactWithoutPartWrong)

/-- 'laws.FnExactNormVectors': WHATEVER THE INPUT: true; the input reads as it did. -/
def fnExactNormVectorsSpec : ChangeSpec := { name := "fnExactNormVectors", fn := fun _ => fun
  | [d] => { results := [.lit (.bool true)], args := [d] }
  | _ => none }
def fnExactNormVectorsRow : OpenClaim := { program := "ytfpmhmngebnphaa", sum := "447cacb349d4086d6ceb064a93f372fab2bb62fcba165f6458aedb3babbf82f8", func := "loop.example/g01222/laws.FnExactNormVectors", spec := "fnExactNormVectors", inPlace := ["math.sqrt"], apart := false }
def FnExactNormVectorsSaid : Prop := fnExactNormVectorsRow.holds Try.pinned (OpenSpec.ofChange fnExactNormVectorsSpec)

/-- ITS FALSE NEIGHBOUR: 'it returns false'. Refute it at one input. -/
def fnExactNormVectorsWrong : ChangeSpec := { name := "fnExactNormVectors", fn := fun _ => fun
  | [d] => { results := [.lit (.bool false)], args := [d] }
  | _ => none }
def FnExactNormVectorsWrongFalsely : Prop := fnExactNormVectorsRow.holds Try.pinned (OpenSpec.ofChange fnExactNormVectorsWrong)

/-- 'laws.FnExactShrinkRing': WHATEVER THE INPUT: true; the input reads as it did. -/
def fnExactShrinkRingSpec : ChangeSpec := { name := "fnExactShrinkRing", fn := fun _ => fun
  | [d1, d2] => { results := [.lit (.bool true)], args := [d1, d2] }
  | _ => none }
def fnExactShrinkRingRow : OpenClaim := { program := "ytfpmhmngebnphaa", sum := "447cacb349d4086d6ceb064a93f372fab2bb62fcba165f6458aedb3babbf82f8", func := "loop.example/g01222/laws.FnExactShrinkRing", spec := "fnExactShrinkRing", unfollowed := true, recurses := true, apart := false }
def FnExactShrinkRingSaid : Prop := fnExactShrinkRingRow.holds Try.pinned (OpenSpec.ofChange fnExactShrinkRingSpec)

/-- ITS FALSE NEIGHBOUR: 'it returns false'. Refute it at one input. -/
def fnExactShrinkRingWrong : ChangeSpec := { name := "fnExactShrinkRing", fn := fun _ => fun
  | [d1, d2] => { results := [.lit (.bool false)], args := [d1, d2] }
  | _ => none }
def FnExactShrinkRingWrongFalsely : Prop := fnExactShrinkRingRow.holds Try.pinned (OpenSpec.ofChange fnExactShrinkRingWrong)

/-- 'laws.FnExactCutHole': WHATEVER THE INPUT: true; the input reads as it did. -/
def fnExactCutHoleSpec : ChangeSpec := { name := "fnExactCutHole", fn := fun _ => fun
  | [d1, d2] => { results := [.lit (.bool true)], args := [d1, d2] }
  | _ => none }
def fnExactCutHoleRow : OpenClaim := { program := "ytfpmhmngebnphaa", sum := "447cacb349d4086d6ceb064a93f372fab2bb62fcba165f6458aedb3babbf82f8", func := "loop.example/g01222/laws.FnExactCutHole", spec := "fnExactCutHole", apart := false }
def FnExactCutHoleSaid : Prop := fnExactCutHoleRow.holds Try.pinned (OpenSpec.ofChange fnExactCutHoleSpec)

/-- ITS FALSE NEIGHBOUR: 'it returns false'. Refute it at one input. -/
def fnExactCutHoleWrong : ChangeSpec := { name := "fnExactCutHole", fn := fun _ => fun
  | [d1, d2] => { results := [.lit (.bool false)], args := [d1, d2] }
  | _ => none }
def FnExactCutHoleWrongFalsely : Prop := fnExactCutHoleRow.holds Try.pinned (OpenSpec.ofChange fnExactCutHoleWrong)

/-- 'laws.FnExactDropPlaces': WHATEVER THE INPUT: true; the input reads as it did. -/
def fnExactDropPlacesSpec : ChangeSpec := { name := "fnExactDropPlaces", fn := fun _ => fun
  | [d] => { results := [.lit (.bool true)], args := [d] }
  | _ => none }
def fnExactDropPlacesRow : OpenClaim := { program := "ytfpmhmngebnphaa", sum := "447cacb349d4086d6ceb064a93f372fab2bb62fcba165f6458aedb3babbf82f8", func := "loop.example/g01222/laws.FnExactDropPlaces", spec := "fnExactDropPlaces", apart := false }
def FnExactDropPlacesSaid : Prop := fnExactDropPlacesRow.holds Try.pinned (OpenSpec.ofChange fnExactDropPlacesSpec)

/-- ITS FALSE NEIGHBOUR: 'it returns false'. Refute it at one input. -/
def fnExactDropPlacesWrong : ChangeSpec := { name := "fnExactDropPlaces", fn := fun _ => fun
  | [d] => { results := [.lit (.bool false)], args := [d] }
  | _ => none }
def FnExactDropPlacesWrongFalsely : Prop := fnExactDropPlacesRow.holds Try.pinned (OpenSpec.ofChange fnExactDropPlacesWrong)

/-- 'laws.FnExactThicknessOf': WHATEVER THE INPUT: true; the input reads as it did. -/
def fnExactThicknessOfSpec : ChangeSpec := { name := "fnExactThicknessOf", fn := fun _ => fun
  | [d1, d2] => { results := [.lit (.bool true)], args := [d1, d2] }
  | _ => none }
def fnExactThicknessOfRow : OpenClaim := { program := "ytfpmhmngebnphaa", sum := "447cacb349d4086d6ceb064a93f372fab2bb62fcba165f6458aedb3babbf82f8", func := "loop.example/g01222/laws.FnExactThicknessOf", spec := "fnExactThicknessOf", inPlace := ["math.sqrt"], apart := false }
def FnExactThicknessOfSaid : Prop := fnExactThicknessOfRow.holds Try.pinned (OpenSpec.ofChange fnExactThicknessOfSpec)

/-- ITS FALSE NEIGHBOUR: 'it returns false'. Refute it at one input. -/
def fnExactThicknessOfWrong : ChangeSpec := { name := "fnExactThicknessOf", fn := fun _ => fun
  | [d1, d2] => { results := [.lit (.bool false)], args := [d1, d2] }
  | _ => none }
def FnExactThicknessOfWrongFalsely : Prop := fnExactThicknessOfRow.holds Try.pinned (OpenSpec.ofChange fnExactThicknessOfWrong)

/-- 'laws.FnExactAreColours': WHATEVER THE INPUT: true; the input reads as it did. -/
def fnExactAreColoursSpec : ChangeSpec := { name := "fnExactAreColours", fn := fun _ => fun
  | [d1, d2] => { results := [.lit (.bool true)], args := [d1, d2] }
  | _ => none }
def fnExactAreColoursRow : OpenClaim := { program := "ytfpmhmngebnphaa", sum := "447cacb349d4086d6ceb064a93f372fab2bb62fcba165f6458aedb3babbf82f8", func := "loop.example/g01222/laws.FnExactAreColours", spec := "fnExactAreColours", apart := false }
def FnExactAreColoursSaid : Prop := fnExactAreColoursRow.holds Try.pinned (OpenSpec.ofChange fnExactAreColoursSpec)

/-- ITS FALSE NEIGHBOUR: 'it returns false'. Refute it at one input. -/
def fnExactAreColoursWrong : ChangeSpec := { name := "fnExactAreColours", fn := fun _ => fun
  | [d1, d2] => { results := [.lit (.bool false)], args := [d1, d2] }
  | _ => none }
def FnExactAreColoursWrongFalsely : Prop := fnExactAreColoursRow.holds Try.pinned (OpenSpec.ofChange fnExactAreColoursWrong)

/-- 'laws.FnExactThinTriangles': WHATEVER THE INPUT: true; the input reads as it did. -/
def fnExactThinTrianglesSpec : ChangeSpec := { name := "fnExactThinTriangles", fn := fun _ => fun
  | [d1, d2] => { results := [.lit (.bool true)], args := [d1, d2] }
  | _ => none }
def fnExactThinTrianglesRow : OpenClaim := { program := "ytfpmhmngebnphaa", sum := "447cacb349d4086d6ceb064a93f372fab2bb62fcba165f6458aedb3babbf82f8", func := "loop.example/g01222/laws.FnExactThinTriangles", spec := "fnExactThinTriangles", inPlace := ["math.sqrt"], apart := false }
def FnExactThinTrianglesSaid : Prop := fnExactThinTrianglesRow.holds Try.pinned (OpenSpec.ofChange fnExactThinTrianglesSpec)

/-- ITS FALSE NEIGHBOUR: 'it returns false'. Refute it at one input. -/
def fnExactThinTrianglesWrong : ChangeSpec := { name := "fnExactThinTriangles", fn := fun _ => fun
  | [d1, d2] => { results := [.lit (.bool false)], args := [d1, d2] }
  | _ => none }
def FnExactThinTrianglesWrongFalsely : Prop := fnExactThinTrianglesRow.holds Try.pinned (OpenSpec.ofChange fnExactThinTrianglesWrong)

/-- 'laws.FnExactCountColours': WHATEVER THE INPUT: true; the input reads as it did. -/
def fnExactCountColoursSpec : ChangeSpec := { name := "fnExactCountColours", fn := fun _ => fun
  | [d] => { results := [.lit (.bool true)], args := [d] }
  | _ => none }
def fnExactCountColoursRow : OpenClaim := { program := "ytfpmhmngebnphaa", sum := "447cacb349d4086d6ceb064a93f372fab2bb62fcba165f6458aedb3babbf82f8", func := "loop.example/g01222/laws.FnExactCountColours", spec := "fnExactCountColours", apart := false }
def FnExactCountColoursSaid : Prop := fnExactCountColoursRow.holds Try.pinned (OpenSpec.ofChange fnExactCountColoursSpec)

/-- ITS FALSE NEIGHBOUR: 'it returns false'. Refute it at one input. -/
def fnExactCountColoursWrong : ChangeSpec := { name := "fnExactCountColours", fn := fun _ => fun
  | [d] => { results := [.lit (.bool false)], args := [d] }
  | _ => none }
def FnExactCountColoursWrongFalsely : Prop := fnExactCountColoursRow.holds Try.pinned (OpenSpec.ofChange fnExactCountColoursWrong)

/-- 'laws.FnExactWorstSpring': WHATEVER THE INPUT: true; the input reads as it did. -/
def fnExactWorstSpringSpec : ChangeSpec := { name := "fnExactWorstSpring", fn := fun _ => fun
  | [d] => { results := [.lit (.bool true)], args := [d] }
  | _ => none }
def fnExactWorstSpringRow : OpenClaim := { program := "ytfpmhmngebnphaa", sum := "447cacb349d4086d6ceb064a93f372fab2bb62fcba165f6458aedb3babbf82f8", func := "loop.example/g01222/laws.FnExactWorstSpring", spec := "fnExactWorstSpring", inPlace := ["math.sqrt"], apart := false }
def FnExactWorstSpringSaid : Prop := fnExactWorstSpringRow.holds Try.pinned (OpenSpec.ofChange fnExactWorstSpringSpec)

/-- ITS FALSE NEIGHBOUR: 'it returns false'. Refute it at one input. -/
def fnExactWorstSpringWrong : ChangeSpec := { name := "fnExactWorstSpring", fn := fun _ => fun
  | [d] => { results := [.lit (.bool false)], args := [d] }
  | _ => none }
def FnExactWorstSpringWrongFalsely : Prop := fnExactWorstSpringRow.holds Try.pinned (OpenSpec.ofChange fnExactWorstSpringWrong)

/-- 'laws.FnExactColoursOf': WHATEVER THE INPUT: true; the input reads as it did. -/
def fnExactColoursOfSpec : ChangeSpec := { name := "fnExactColoursOf", fn := fun _ => fun
  | [d] => { results := [.lit (.bool true)], args := [d] }
  | _ => none }
def fnExactColoursOfRow : OpenClaim := { program := "ytfpmhmngebnphaa", sum := "447cacb349d4086d6ceb064a93f372fab2bb62fcba165f6458aedb3babbf82f8", func := "loop.example/g01222/laws.FnExactColoursOf", spec := "fnExactColoursOf", apart := false }
def FnExactColoursOfSaid : Prop := fnExactColoursOfRow.holds Try.pinned (OpenSpec.ofChange fnExactColoursOfSpec)

/-- ITS FALSE NEIGHBOUR: 'it returns false'. Refute it at one input. -/
def fnExactColoursOfWrong : ChangeSpec := { name := "fnExactColoursOf", fn := fun _ => fun
  | [d] => { results := [.lit (.bool false)], args := [d] }
  | _ => none }
def FnExactColoursOfWrongFalsely : Prop := fnExactColoursOfRow.holds Try.pinned (OpenSpec.ofChange fnExactColoursOfWrong)

/- THE SECOND FORM. 'bulk': how many values and letters a reading holds, each counted each time it is reached (what is shared counts as often as it is met; a slice's spare places count too). A statement '..UptoSaid' is the law's where the arguments, and the package variables that the reading takes, are together of bulk at most 1048576: NARROWER than '..Said'. Prove '..Said' where nothing that the law and all that it calls make is longer than what came in: it says more and counts as full. Else prove '..UptoSaid'. A law counts once. -/
mutual
def uptoBulk {H : Type} : DataW H → Nat
  | .lit (.string bytes) => bytes.length + 1
  | .lit _ => 1
  | .nil => 1
  | .ptr d => uptoBulk d + 1
  | .slice elems spare => uptoBulkAll elems + uptoBulkAll spare + 1
  | .agg parts => uptoBulkAll parts + 1
  | .iface _ d => uptoBulk d + 1
  | .map entries => uptoBulkEntries entries + 1
  | .held _ => 1
def uptoBulkAll {H : Type} : List (DataW H) → Nat
  | [] => 0
  | d :: r => uptoBulk d + uptoBulkAll r
def uptoBulkEntries {H : Type} : List (Lit × DataW H) → Nat
  | [] => 0
  | x :: r => uptoBulkEntry x + uptoBulkEntries r
def uptoBulkEntry {H : Type} : Lit × DataW H → Nat
  | (.string bytes, d) => bytes.length + uptoBulk d + 1
  | (_, d) => uptoBulk d + 1
 end
def uptoSmall : (H : Type) → List (DataW H) → Bool := fun _ ds => decide (uptoBulkAll ds ≤ 1048576)
def OpenSpec.upto (s : _root_.Go.ChangeSpec) : _root_.Go.OpenSpec := { _root_.Go.OpenSpec.ofChange s with cond := some uptoSmall }

/-- 'laws.FnExactSharesOf', WHERE WHAT IT READS IS OF BULK AT MOST 1048576: true; the input reads as it did. -/
def fnExactSharesOfUptoRow : OpenClaim := { program := "ytfpmhmngebnphaa", sum := "447cacb349d4086d6ceb064a93f372fab2bb62fcba165f6458aedb3babbf82f8", func := "loop.example/g01222/laws.FnExactSharesOf", spec := "fnExactSharesOf", apart := false, narrowed := true }
def FnExactSharesOfUptoSaid : Prop := fnExactSharesOfUptoRow.holds Try.pinned (OpenSpec.upto fnExactSharesOfSpec)

/-- 'laws.FnExactWithoutPart', WHERE WHAT IT READS IS OF BULK AT MOST 1048576: true; the input reads as it did. -/
def fnExactWithoutPartUptoRow : OpenClaim := { program := "ytfpmhmngebnphaa", sum := "447cacb349d4086d6ceb064a93f372fab2bb62fcba165f6458aedb3babbf82f8", func := "loop.example/g01222/laws.FnExactWithoutPart", spec := "fnExactWithoutPart", apart := false, narrowed := true }
def FnExactWithoutPartUptoSaid : Prop := fnExactWithoutPartUptoRow.holds Try.pinned (OpenSpec.upto fnExactWithoutPartSpec)

/-- 'laws.FnExactNormVectors', WHERE WHAT IT READS IS OF BULK AT MOST 1048576: true; the input reads as it did. -/
def fnExactNormVectorsUptoRow : OpenClaim := { program := "ytfpmhmngebnphaa", sum := "447cacb349d4086d6ceb064a93f372fab2bb62fcba165f6458aedb3babbf82f8", func := "loop.example/g01222/laws.FnExactNormVectors", spec := "fnExactNormVectors", inPlace := ["math.sqrt"], apart := false, narrowed := true }
def FnExactNormVectorsUptoSaid : Prop := fnExactNormVectorsUptoRow.holds Try.pinned (OpenSpec.upto fnExactNormVectorsSpec)

/-- 'laws.FnExactShrinkRing', WHERE WHAT IT READS IS OF BULK AT MOST 1048576: true; the input reads as it did. -/
def fnExactShrinkRingUptoRow : OpenClaim := { program := "ytfpmhmngebnphaa", sum := "447cacb349d4086d6ceb064a93f372fab2bb62fcba165f6458aedb3babbf82f8", func := "loop.example/g01222/laws.FnExactShrinkRing", spec := "fnExactShrinkRing", unfollowed := true, recurses := true, apart := false, narrowed := true }
def FnExactShrinkRingUptoSaid : Prop := fnExactShrinkRingUptoRow.holds Try.pinned (OpenSpec.upto fnExactShrinkRingSpec)

/-- 'laws.FnExactCutHole', WHERE WHAT IT READS IS OF BULK AT MOST 1048576: true; the input reads as it did. -/
def fnExactCutHoleUptoRow : OpenClaim := { program := "ytfpmhmngebnphaa", sum := "447cacb349d4086d6ceb064a93f372fab2bb62fcba165f6458aedb3babbf82f8", func := "loop.example/g01222/laws.FnExactCutHole", spec := "fnExactCutHole", apart := false, narrowed := true }
def FnExactCutHoleUptoSaid : Prop := fnExactCutHoleUptoRow.holds Try.pinned (OpenSpec.upto fnExactCutHoleSpec)

/-- 'laws.FnExactDropPlaces', WHERE WHAT IT READS IS OF BULK AT MOST 1048576: true; the input reads as it did. -/
def fnExactDropPlacesUptoRow : OpenClaim := { program := "ytfpmhmngebnphaa", sum := "447cacb349d4086d6ceb064a93f372fab2bb62fcba165f6458aedb3babbf82f8", func := "loop.example/g01222/laws.FnExactDropPlaces", spec := "fnExactDropPlaces", apart := false, narrowed := true }
def FnExactDropPlacesUptoSaid : Prop := fnExactDropPlacesUptoRow.holds Try.pinned (OpenSpec.upto fnExactDropPlacesSpec)

/-- 'laws.FnExactThicknessOf', WHERE WHAT IT READS IS OF BULK AT MOST 1048576: true; the input reads as it did. -/
def fnExactThicknessOfUptoRow : OpenClaim := { program := "ytfpmhmngebnphaa", sum := "447cacb349d4086d6ceb064a93f372fab2bb62fcba165f6458aedb3babbf82f8", func := "loop.example/g01222/laws.FnExactThicknessOf", spec := "fnExactThicknessOf", inPlace := ["math.sqrt"], apart := false, narrowed := true }
def FnExactThicknessOfUptoSaid : Prop := fnExactThicknessOfUptoRow.holds Try.pinned (OpenSpec.upto fnExactThicknessOfSpec)

/-- 'laws.FnExactAreColours', WHERE WHAT IT READS IS OF BULK AT MOST 1048576: true; the input reads as it did. -/
def fnExactAreColoursUptoRow : OpenClaim := { program := "ytfpmhmngebnphaa", sum := "447cacb349d4086d6ceb064a93f372fab2bb62fcba165f6458aedb3babbf82f8", func := "loop.example/g01222/laws.FnExactAreColours", spec := "fnExactAreColours", apart := false, narrowed := true }
def FnExactAreColoursUptoSaid : Prop := fnExactAreColoursUptoRow.holds Try.pinned (OpenSpec.upto fnExactAreColoursSpec)

/-- 'laws.FnExactThinTriangles', WHERE WHAT IT READS IS OF BULK AT MOST 1048576: true; the input reads as it did. -/
def fnExactThinTrianglesUptoRow : OpenClaim := { program := "ytfpmhmngebnphaa", sum := "447cacb349d4086d6ceb064a93f372fab2bb62fcba165f6458aedb3babbf82f8", func := "loop.example/g01222/laws.FnExactThinTriangles", spec := "fnExactThinTriangles", inPlace := ["math.sqrt"], apart := false, narrowed := true }
def FnExactThinTrianglesUptoSaid : Prop := fnExactThinTrianglesUptoRow.holds Try.pinned (OpenSpec.upto fnExactThinTrianglesSpec)

/-- 'laws.FnExactCountColours', WHERE WHAT IT READS IS OF BULK AT MOST 1048576: true; the input reads as it did. -/
def fnExactCountColoursUptoRow : OpenClaim := { program := "ytfpmhmngebnphaa", sum := "447cacb349d4086d6ceb064a93f372fab2bb62fcba165f6458aedb3babbf82f8", func := "loop.example/g01222/laws.FnExactCountColours", spec := "fnExactCountColours", apart := false, narrowed := true }
def FnExactCountColoursUptoSaid : Prop := fnExactCountColoursUptoRow.holds Try.pinned (OpenSpec.upto fnExactCountColoursSpec)

/-- 'laws.FnExactWorstSpring', WHERE WHAT IT READS IS OF BULK AT MOST 1048576: true; the input reads as it did. -/
def fnExactWorstSpringUptoRow : OpenClaim := { program := "ytfpmhmngebnphaa", sum := "447cacb349d4086d6ceb064a93f372fab2bb62fcba165f6458aedb3babbf82f8", func := "loop.example/g01222/laws.FnExactWorstSpring", spec := "fnExactWorstSpring", inPlace := ["math.sqrt"], apart := false, narrowed := true }
def FnExactWorstSpringUptoSaid : Prop := fnExactWorstSpringUptoRow.holds Try.pinned (OpenSpec.upto fnExactWorstSpringSpec)

/-- 'laws.FnExactColoursOf', WHERE WHAT IT READS IS OF BULK AT MOST 1048576: true; the input reads as it did. -/
def fnExactColoursOfUptoRow : OpenClaim := { program := "ytfpmhmngebnphaa", sum := "447cacb349d4086d6ceb064a93f372fab2bb62fcba165f6458aedb3babbf82f8", func := "loop.example/g01222/laws.FnExactColoursOf", spec := "fnExactColoursOf", apart := false, narrowed := true }
def FnExactColoursOfUptoSaid : Prop := fnExactColoursOfUptoRow.holds Try.pinned (OpenSpec.upto fnExactColoursOfSpec)

end Rows
end Go.Proofs.Ytfpmhmngebnphaa
