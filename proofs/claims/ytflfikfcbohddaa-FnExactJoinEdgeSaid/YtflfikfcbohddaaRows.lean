/-
  No cell of these rows narrows 'for every input' (looked for: loops, veiled, ifaces, maps, wideKeys, modest, calm, conditions, laid).
  DERIVED. THE GIVEN ROWS OF THIS SEAT. 10 by the template 'for every input the law returns true; each argument reads behind the call as it read before'; 0 by the template 'total and deterministic' (their statements: YtflfikfcbohddaaTotals.lean).
  GIVEN WITH THE SEED: the statements are not yours to turn. If you find one false, say at which input.
  Laid BY PROGRAM, IN A SANDBOX (cutbox-rows.mjs): the forced cells as the released guide's own fill.sh prints them over the translation b2d13d1676ac621d… (all of the seat's roots in one cut). By AI agents, Wed Nov 11 2026. No macro, syntax, notation, axiom, sorry.
-/
import Derived.Test.YtflfikfcbohddaaChecked
import GoSem.Claim
import GoSem.ClaimJoined
import GoSem.ClaimMapViews
import Derived.JoinedTies
import Derived.KernelRfl
namespace Go.Proofs.Ytflfikfcbohddaa
/- THE CELL 'sum', in the pinned program and in every row, IS THE sha256 OF THE DUMP (.gsa) THAT YtflfikfcbohddaaProg.lean LOADS. Nothing in Lean hashes anything: it is a label: what it is worth is what the hold of that sum in a sandbox is worth. -/
noncomputable def Try.pinned : Pinned := { name := "ytflfikfcbohddaa", sum := "b2d13d1676ac621d99b131431f86f4cbf0a11ac6e99fc2943f2f7c872e4efbad", checked := Try.checked }
namespace Rows
def none {H : Type} : Left H := { results := [], args := [] }

/-- 'laws.FnExactSplitEdge': WHATEVER THE INPUT: true; the input reads as it did. -/
def fnExactSplitEdgeSpec : ChangeSpec := { name := "fnExactSplitEdge", fn := fun _ => fun
  | [d1, d2, d3, d4] => { results := [.lit (.bool true)], args := [d1, d2, d3, d4] }
  | _ => none }
def fnExactSplitEdgeRow : OpenClaim := { program := "ytflfikfcbohddaa", sum := "b2d13d1676ac621d99b131431f86f4cbf0a11ac6e99fc2943f2f7c872e4efbad", func := "loop.example/g01222/laws.FnExactSplitEdge", spec := "fnExactSplitEdge", plainKeys := false, apart := false }
def FnExactSplitEdgeSaid : Prop := fnExactSplitEdgeRow.holds Try.pinned (OpenSpec.ofChange fnExactSplitEdgeSpec)

/-- ITS FALSE NEIGHBOUR: 'it returns false'. Refute it at one input. -/
def fnExactSplitEdgeWrong : ChangeSpec := { name := "fnExactSplitEdge", fn := fun _ => fun
  | [d1, d2, d3, d4] => { results := [.lit (.bool false)], args := [d1, d2, d3, d4] }
  | _ => none }
def FnExactSplitEdgeWrongFalsely : Prop := fnExactSplitEdgeRow.holds Try.pinned (OpenSpec.ofChange fnExactSplitEdgeWrong)

/-- 'laws.FnExactCanFlip': WHATEVER THE INPUT: true; the input reads as it did. -/
def fnExactCanFlipSpec : ChangeSpec := { name := "fnExactCanFlip", fn := fun _ => fun
  | [d1, d2, d3] => { results := [.lit (.bool true)], args := [d1, d2, d3] }
  | _ => none }
def fnExactCanFlipRow : OpenClaim := { program := "ytflfikfcbohddaa", sum := "b2d13d1676ac621d99b131431f86f4cbf0a11ac6e99fc2943f2f7c872e4efbad", func := "loop.example/g01222/laws.FnExactCanFlip", spec := "fnExactCanFlip", unfollowed := true, recurses := true, plainKeys := false, apart := false }
def FnExactCanFlipSaid : Prop := fnExactCanFlipRow.holds Try.pinned (OpenSpec.ofChange fnExactCanFlipSpec)

/-- ITS FALSE NEIGHBOUR: 'it returns false'. Refute it at one input. -/
def fnExactCanFlipWrong : ChangeSpec := { name := "fnExactCanFlip", fn := fun _ => fun
  | [d1, d2, d3] => { results := [.lit (.bool false)], args := [d1, d2, d3] }
  | _ => none }
def FnExactCanFlipWrongFalsely : Prop := fnExactCanFlipRow.holds Try.pinned (OpenSpec.ofChange fnExactCanFlipWrong)

/-- 'laws.FnExactShortestEdge': WHATEVER THE INPUT: true; the input reads as it did. -/
def fnExactShortestEdgeSpec : ChangeSpec := { name := "fnExactShortestEdge", fn := fun _ => fun
  | [d] => { results := [.lit (.bool true)], args := [d] }
  | _ => none }
def fnExactShortestEdgeRow : OpenClaim := { program := "ytflfikfcbohddaa", sum := "b2d13d1676ac621d99b131431f86f4cbf0a11ac6e99fc2943f2f7c872e4efbad", func := "loop.example/g01222/laws.FnExactShortestEdge", spec := "fnExactShortestEdge", inPlace := ["math.sqrt"], unfollowed := true, recurses := true, plainKeys := false, apart := false }
def FnExactShortestEdgeSaid : Prop := fnExactShortestEdgeRow.holds Try.pinned (OpenSpec.ofChange fnExactShortestEdgeSpec)

/-- ITS FALSE NEIGHBOUR: 'it returns false'. Refute it at one input. -/
def fnExactShortestEdgeWrong : ChangeSpec := { name := "fnExactShortestEdge", fn := fun _ => fun
  | [d] => { results := [.lit (.bool false)], args := [d] }
  | _ => none }
def FnExactShortestEdgeWrongFalsely : Prop := fnExactShortestEdgeRow.holds Try.pinned (OpenSpec.ofChange fnExactShortestEdgeWrong)

/-- 'laws.FnExactLongestEdge': WHATEVER THE INPUT: true; the input reads as it did. -/
def fnExactLongestEdgeSpec : ChangeSpec := { name := "fnExactLongestEdge", fn := fun _ => fun
  | [d] => { results := [.lit (.bool true)], args := [d] }
  | _ => none }
def fnExactLongestEdgeRow : OpenClaim := { program := "ytflfikfcbohddaa", sum := "b2d13d1676ac621d99b131431f86f4cbf0a11ac6e99fc2943f2f7c872e4efbad", func := "loop.example/g01222/laws.FnExactLongestEdge", spec := "fnExactLongestEdge", inPlace := ["math.sqrt"], unfollowed := true, recurses := true, plainKeys := false, apart := false }
def FnExactLongestEdgeSaid : Prop := fnExactLongestEdgeRow.holds Try.pinned (OpenSpec.ofChange fnExactLongestEdgeSpec)

/-- ITS FALSE NEIGHBOUR: 'it returns false'. Refute it at one input. -/
def fnExactLongestEdgeWrong : ChangeSpec := { name := "fnExactLongestEdge", fn := fun _ => fun
  | [d] => { results := [.lit (.bool false)], args := [d] }
  | _ => none }
def FnExactLongestEdgeWrongFalsely : Prop := fnExactLongestEdgeRow.holds Try.pinned (OpenSpec.ofChange fnExactLongestEdgeWrong)

/-- 'laws.FnExactFlipGain': WHATEVER THE INPUT: true; the input reads as it did. -/
def fnExactFlipGainSpec : ChangeSpec := { name := "fnExactFlipGain", fn := fun _ => fun
  | [d1, d2, d3] => { results := [.lit (.bool true)], args := [d1, d2, d3] }
  | _ => none }
def fnExactFlipGainRow : OpenClaim := { program := "ytflfikfcbohddaa", sum := "b2d13d1676ac621d99b131431f86f4cbf0a11ac6e99fc2943f2f7c872e4efbad", func := "loop.example/g01222/laws.FnExactFlipGain", spec := "fnExactFlipGain", inPlace := ["math.sqrt"], unfollowed := true, recurses := true, plainKeys := false, apart := false }
def FnExactFlipGainSaid : Prop := fnExactFlipGainRow.holds Try.pinned (OpenSpec.ofChange fnExactFlipGainSpec)

/-- ITS FALSE NEIGHBOUR: 'it returns false'. Refute it at one input. -/
def fnExactFlipGainWrong : ChangeSpec := { name := "fnExactFlipGain", fn := fun _ => fun
  | [d1, d2, d3] => { results := [.lit (.bool false)], args := [d1, d2, d3] }
  | _ => none }
def FnExactFlipGainWrongFalsely : Prop := fnExactFlipGainRow.holds Try.pinned (OpenSpec.ofChange fnExactFlipGainWrong)

/-- 'laws.FnExactFlipEdge': WHATEVER THE INPUT: true; the input reads as it did. -/
def fnExactFlipEdgeSpec : ChangeSpec := { name := "fnExactFlipEdge", fn := fun _ => fun
  | [d1, d2, d3] => { results := [.lit (.bool true)], args := [d1, d2, d3] }
  | _ => none }
def fnExactFlipEdgeRow : OpenClaim := { program := "ytflfikfcbohddaa", sum := "b2d13d1676ac621d99b131431f86f4cbf0a11ac6e99fc2943f2f7c872e4efbad", func := "loop.example/g01222/laws.FnExactFlipEdge", spec := "fnExactFlipEdge", unfollowed := true, recurses := true, plainKeys := false, apart := false }
def FnExactFlipEdgeSaid : Prop := fnExactFlipEdgeRow.holds Try.pinned (OpenSpec.ofChange fnExactFlipEdgeSpec)

/-- ITS FALSE NEIGHBOUR: 'it returns false'. Refute it at one input. -/
def fnExactFlipEdgeWrong : ChangeSpec := { name := "fnExactFlipEdge", fn := fun _ => fun
  | [d1, d2, d3] => { results := [.lit (.bool false)], args := [d1, d2, d3] }
  | _ => none }
def FnExactFlipEdgeWrongFalsely : Prop := fnExactFlipEdgeRow.holds Try.pinned (OpenSpec.ofChange fnExactFlipEdgeWrong)

/-- 'laws.FnExactBestFlip': WHATEVER THE INPUT: true; the input reads as it did. -/
def fnExactBestFlipSpec : ChangeSpec := { name := "fnExactBestFlip", fn := fun _ => fun
  | [d] => { results := [.lit (.bool true)], args := [d] }
  | _ => none }
def fnExactBestFlipRow : OpenClaim := { program := "ytflfikfcbohddaa", sum := "b2d13d1676ac621d99b131431f86f4cbf0a11ac6e99fc2943f2f7c872e4efbad", func := "loop.example/g01222/laws.FnExactBestFlip", spec := "fnExactBestFlip", inPlace := ["math.sqrt"], unfollowed := true, recurses := true, plainKeys := false, apart := false }
def FnExactBestFlipSaid : Prop := fnExactBestFlipRow.holds Try.pinned (OpenSpec.ofChange fnExactBestFlipSpec)

/-- ITS FALSE NEIGHBOUR: 'it returns false'. Refute it at one input. -/
def fnExactBestFlipWrong : ChangeSpec := { name := "fnExactBestFlip", fn := fun _ => fun
  | [d] => { results := [.lit (.bool false)], args := [d] }
  | _ => none }
def FnExactBestFlipWrongFalsely : Prop := fnExactBestFlipRow.holds Try.pinned (OpenSpec.ofChange fnExactBestFlipWrong)

/-- 'laws.FnExactCanJoin': WHATEVER THE INPUT: true; the input reads as it did. -/
def fnExactCanJoinSpec : ChangeSpec := { name := "fnExactCanJoin", fn := fun _ => fun
  | [d1, d2, d3] => { results := [.lit (.bool true)], args := [d1, d2, d3] }
  | _ => none }
def fnExactCanJoinRow : OpenClaim := { program := "ytflfikfcbohddaa", sum := "b2d13d1676ac621d99b131431f86f4cbf0a11ac6e99fc2943f2f7c872e4efbad", func := "loop.example/g01222/laws.FnExactCanJoin", spec := "fnExactCanJoin", unfollowed := true, recurses := true, plainKeys := false, apart := false }
def FnExactCanJoinSaid : Prop := fnExactCanJoinRow.holds Try.pinned (OpenSpec.ofChange fnExactCanJoinSpec)

/-- ITS FALSE NEIGHBOUR: 'it returns false'. Refute it at one input. -/
def fnExactCanJoinWrong : ChangeSpec := { name := "fnExactCanJoin", fn := fun _ => fun
  | [d1, d2, d3] => { results := [.lit (.bool false)], args := [d1, d2, d3] }
  | _ => none }
def FnExactCanJoinWrongFalsely : Prop := fnExactCanJoinRow.holds Try.pinned (OpenSpec.ofChange fnExactCanJoinWrong)

/-- 'laws.FnExactJoinEdge': WHATEVER THE INPUT: true; the input reads as it did. -/
def fnExactJoinEdgeSpec : ChangeSpec := { name := "fnExactJoinEdge", fn := fun _ => fun
  | [d1, d2, d3] => { results := [.lit (.bool true)], args := [d1, d2, d3] }
  | _ => none }
def fnExactJoinEdgeRow : OpenClaim := { program := "ytflfikfcbohddaa", sum := "b2d13d1676ac621d99b131431f86f4cbf0a11ac6e99fc2943f2f7c872e4efbad", func := "loop.example/g01222/laws.FnExactJoinEdge", spec := "fnExactJoinEdge", unfollowed := true, recurses := true, plainKeys := false, apart := false }
def FnExactJoinEdgeSaid : Prop := fnExactJoinEdgeRow.holds Try.pinned (OpenSpec.ofChange fnExactJoinEdgeSpec)

/-- ITS FALSE NEIGHBOUR: 'it returns false'. Refute it at one input. -/
def fnExactJoinEdgeWrong : ChangeSpec := { name := "fnExactJoinEdge", fn := fun _ => fun
  | [d1, d2, d3] => { results := [.lit (.bool false)], args := [d1, d2, d3] }
  | _ => none }
def FnExactJoinEdgeWrongFalsely : Prop := fnExactJoinEdgeRow.holds Try.pinned (OpenSpec.ofChange fnExactJoinEdgeWrong)

/-- 'laws.FnExactFilmMesh': WHATEVER THE INPUT: true; the input reads as it did. -/
def fnExactFilmMeshSpec : ChangeSpec := { name := "fnExactFilmMesh", fn := fun _ => fun
  | [d1, d2, d3, d4] => { results := [.lit (.bool true)], args := [d1, d2, d3, d4] }
  | _ => none }
def fnExactFilmMeshRow : OpenClaim := { program := "ytflfikfcbohddaa", sum := "b2d13d1676ac621d99b131431f86f4cbf0a11ac6e99fc2943f2f7c872e4efbad", func := "loop.example/g01222/laws.FnExactFilmMesh", spec := "fnExactFilmMesh", inPlace := ["math.Float64frombits", "math.Float64bits"], plainKeys := false, apart := false }
def FnExactFilmMeshSaid : Prop := fnExactFilmMeshRow.holds Try.pinned (OpenSpec.ofChange fnExactFilmMeshSpec)

/-- ITS FALSE NEIGHBOUR: 'it returns false'. Refute it at one input. -/
def fnExactFilmMeshWrong : ChangeSpec := { name := "fnExactFilmMesh", fn := fun _ => fun
  | [d1, d2, d3, d4] => { results := [.lit (.bool false)], args := [d1, d2, d3, d4] }
  | _ => none }
def FnExactFilmMeshWrongFalsely : Prop := fnExactFilmMeshRow.holds Try.pinned (OpenSpec.ofChange fnExactFilmMeshWrong)

/- THE SECOND FORM. 'bulk': how many values and letters a reading holds, each counted each time it is reached (what is shared counts as often as it is met; a slice's spare places count too). A statement '..UptoSaid' is the law's where the arguments, and the package variables that the reading takes, are together of bulk at most 1048576: NARROWER than '..Said'. Prove '..Said' where nothing that the law and all that it calls make is longer than what came in: it says more and counts as full. Else prove '..UptoSaid'. A law counts once. -/
mutual
def uptoBulk {H : Type} : DataW H → Nat
  | .lit (.string bytes) => bytes.length + 1
  | .lit _ => 1
  | .nil => 1
  | .ptr d => uptoBulk d + 1
  | .slice elems spare => uptoBulkAll elems + uptoBulkAll spare + 1
  | .agg parts => uptoBulkAll parts + 1
  | .iface _ d => uptoBulk d + 1
  | .map entries => uptoBulkEntries entries + 1
  | .held _ => 1
def uptoBulkAll {H : Type} : List (DataW H) → Nat
  | [] => 0
  | d :: r => uptoBulk d + uptoBulkAll r
def uptoBulkEntries {H : Type} : List (Lit × DataW H) → Nat
  | [] => 0
  | x :: r => uptoBulkEntry x + uptoBulkEntries r
def uptoBulkEntry {H : Type} : Lit × DataW H → Nat
  | (.string bytes, d) => bytes.length + uptoBulk d + 1
  | (_, d) => uptoBulk d + 1
 end
def uptoSmall : (H : Type) → List (DataW H) → Bool := fun _ ds => decide (uptoBulkAll ds ≤ 1048576)
def OpenSpec.upto (s : _root_.Go.ChangeSpec) : _root_.Go.OpenSpec := { _root_.Go.OpenSpec.ofChange s with cond := some uptoSmall }

/-- 'laws.FnExactSplitEdge', WHERE WHAT IT READS IS OF BULK AT MOST 1048576: true; the input reads as it did. -/
def fnExactSplitEdgeUptoRow : OpenClaim := { program := "ytflfikfcbohddaa", sum := "b2d13d1676ac621d99b131431f86f4cbf0a11ac6e99fc2943f2f7c872e4efbad", func := "loop.example/g01222/laws.FnExactSplitEdge", spec := "fnExactSplitEdge", plainKeys := false, apart := false, narrowed := true }
def FnExactSplitEdgeUptoSaid : Prop := fnExactSplitEdgeUptoRow.holds Try.pinned (OpenSpec.upto fnExactSplitEdgeSpec)

/-- 'laws.FnExactCanFlip', WHERE WHAT IT READS IS OF BULK AT MOST 1048576: true; the input reads as it did. -/
def fnExactCanFlipUptoRow : OpenClaim := { program := "ytflfikfcbohddaa", sum := "b2d13d1676ac621d99b131431f86f4cbf0a11ac6e99fc2943f2f7c872e4efbad", func := "loop.example/g01222/laws.FnExactCanFlip", spec := "fnExactCanFlip", unfollowed := true, recurses := true, plainKeys := false, apart := false, narrowed := true }
def FnExactCanFlipUptoSaid : Prop := fnExactCanFlipUptoRow.holds Try.pinned (OpenSpec.upto fnExactCanFlipSpec)

/-- 'laws.FnExactShortestEdge', WHERE WHAT IT READS IS OF BULK AT MOST 1048576: true; the input reads as it did. -/
def fnExactShortestEdgeUptoRow : OpenClaim := { program := "ytflfikfcbohddaa", sum := "b2d13d1676ac621d99b131431f86f4cbf0a11ac6e99fc2943f2f7c872e4efbad", func := "loop.example/g01222/laws.FnExactShortestEdge", spec := "fnExactShortestEdge", inPlace := ["math.sqrt"], unfollowed := true, recurses := true, plainKeys := false, apart := false, narrowed := true }
def FnExactShortestEdgeUptoSaid : Prop := fnExactShortestEdgeUptoRow.holds Try.pinned (OpenSpec.upto fnExactShortestEdgeSpec)

/-- 'laws.FnExactLongestEdge', WHERE WHAT IT READS IS OF BULK AT MOST 1048576: true; the input reads as it did. -/
def fnExactLongestEdgeUptoRow : OpenClaim := { program := "ytflfikfcbohddaa", sum := "b2d13d1676ac621d99b131431f86f4cbf0a11ac6e99fc2943f2f7c872e4efbad", func := "loop.example/g01222/laws.FnExactLongestEdge", spec := "fnExactLongestEdge", inPlace := ["math.sqrt"], unfollowed := true, recurses := true, plainKeys := false, apart := false, narrowed := true }
def FnExactLongestEdgeUptoSaid : Prop := fnExactLongestEdgeUptoRow.holds Try.pinned (OpenSpec.upto fnExactLongestEdgeSpec)

/-- 'laws.FnExactFlipGain', WHERE WHAT IT READS IS OF BULK AT MOST 1048576: true; the input reads as it did. -/
def fnExactFlipGainUptoRow : OpenClaim := { program := "ytflfikfcbohddaa", sum := "b2d13d1676ac621d99b131431f86f4cbf0a11ac6e99fc2943f2f7c872e4efbad", func := "loop.example/g01222/laws.FnExactFlipGain", spec := "fnExactFlipGain", inPlace := ["math.sqrt"], unfollowed := true, recurses := true, plainKeys := false, apart := false, narrowed := true }
def FnExactFlipGainUptoSaid : Prop := fnExactFlipGainUptoRow.holds Try.pinned (OpenSpec.upto fnExactFlipGainSpec)

/-- 'laws.FnExactFlipEdge', WHERE WHAT IT READS IS OF BULK AT MOST 1048576: true; the input reads as it did. -/
def fnExactFlipEdgeUptoRow : OpenClaim := { program := "ytflfikfcbohddaa", sum := "b2d13d1676ac621d99b131431f86f4cbf0a11ac6e99fc2943f2f7c872e4efbad", func := "loop.example/g01222/laws.FnExactFlipEdge", spec := "fnExactFlipEdge", unfollowed := true, recurses := true, plainKeys := false, apart := false, narrowed := true }
def FnExactFlipEdgeUptoSaid : Prop := fnExactFlipEdgeUptoRow.holds Try.pinned (OpenSpec.upto fnExactFlipEdgeSpec)

/-- 'laws.FnExactBestFlip', WHERE WHAT IT READS IS OF BULK AT MOST 1048576: true; the input reads as it did. -/
def fnExactBestFlipUptoRow : OpenClaim := { program := "ytflfikfcbohddaa", sum := "b2d13d1676ac621d99b131431f86f4cbf0a11ac6e99fc2943f2f7c872e4efbad", func := "loop.example/g01222/laws.FnExactBestFlip", spec := "fnExactBestFlip", inPlace := ["math.sqrt"], unfollowed := true, recurses := true, plainKeys := false, apart := false, narrowed := true }
def FnExactBestFlipUptoSaid : Prop := fnExactBestFlipUptoRow.holds Try.pinned (OpenSpec.upto fnExactBestFlipSpec)

/-- 'laws.FnExactCanJoin', WHERE WHAT IT READS IS OF BULK AT MOST 1048576: true; the input reads as it did. -/
def fnExactCanJoinUptoRow : OpenClaim := { program := "ytflfikfcbohddaa", sum := "b2d13d1676ac621d99b131431f86f4cbf0a11ac6e99fc2943f2f7c872e4efbad", func := "loop.example/g01222/laws.FnExactCanJoin", spec := "fnExactCanJoin", unfollowed := true, recurses := true, plainKeys := false, apart := false, narrowed := true }
def FnExactCanJoinUptoSaid : Prop := fnExactCanJoinUptoRow.holds Try.pinned (OpenSpec.upto fnExactCanJoinSpec)

/-- 'laws.FnExactJoinEdge', WHERE WHAT IT READS IS OF BULK AT MOST 1048576: true; the input reads as it did. -/
def fnExactJoinEdgeUptoRow : OpenClaim := { program := "ytflfikfcbohddaa", sum := "b2d13d1676ac621d99b131431f86f4cbf0a11ac6e99fc2943f2f7c872e4efbad", func := "loop.example/g01222/laws.FnExactJoinEdge", spec := "fnExactJoinEdge", unfollowed := true, recurses := true, plainKeys := false, apart := false, narrowed := true }
def FnExactJoinEdgeUptoSaid : Prop := fnExactJoinEdgeUptoRow.holds Try.pinned (OpenSpec.upto fnExactJoinEdgeSpec)

/-- 'laws.FnExactFilmMesh', WHERE WHAT IT READS IS OF BULK AT MOST 1048576: true; the input reads as it did. -/
def fnExactFilmMeshUptoRow : OpenClaim := { program := "ytflfikfcbohddaa", sum := "b2d13d1676ac621d99b131431f86f4cbf0a11ac6e99fc2943f2f7c872e4efbad", func := "loop.example/g01222/laws.FnExactFilmMesh", spec := "fnExactFilmMesh", inPlace := ["math.Float64frombits", "math.Float64bits"], plainKeys := false, apart := false, narrowed := true }
def FnExactFilmMeshUptoSaid : Prop := fnExactFilmMeshUptoRow.holds Try.pinned (OpenSpec.upto fnExactFilmMeshSpec)

end Rows
end Go.Proofs.Ytflfikfcbohddaa
