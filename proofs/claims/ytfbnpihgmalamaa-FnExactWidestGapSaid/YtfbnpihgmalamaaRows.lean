/-
  No cell of these rows narrows 'for every input' (looked for: loops, veiled, ifaces, maps, wideKeys, modest, calm, conditions, laid).
  DERIVED. THE GIVEN ROWS OF THIS SEAT. 6 by the template 'for every input the law returns true; each argument reads behind the call as it read before'; 0 by the template 'total and deterministic' (their statements: YtfbnpihgmalamaaTotals.lean).
  GIVEN WITH THE SEED: the statements are not yours to turn. If you find one false, say at which input.
  Laid BY PROGRAM, IN A SANDBOX (cutbox-rows.mjs): the forced cells as the released guide's own fill.sh prints them over the translation 17c9fdfe126dfabf… (all of the seat's roots in one cut). By AI agents, Wed Nov 11 2026. No macro, syntax, notation, axiom, sorry.
-/
import Derived.Test.YtfbnpihgmalamaaChecked
import GoSem.Claim
import GoSem.ClaimJoined
import GoSem.ClaimMapViews
import Derived.JoinedTies
import Derived.KernelRfl
namespace Go.Proofs.Ytfbnpihgmalamaa
/- THE CELL 'sum', in the pinned program and in every row, IS THE sha256 OF THE DUMP (.gsa) THAT YtfbnpihgmalamaaProg.lean LOADS. Nothing in Lean hashes anything: it is a label: what it is worth is what the hold of that sum in a sandbox is worth. -/
noncomputable def Try.pinned : Pinned := { name := "ytfbnpihgmalamaa", sum := "17c9fdfe126dfabfba422d762a80ddaf393eb528faf768ed375d9d8a3f9e9463", checked := Try.checked }
namespace Rows
def none {H : Type} : Left H := { results := [], args := [] }

/-- 'laws.FnExactBubblePressure': WHATEVER THE INPUT: true; the input reads as it did. -/
def fnExactBubblePressureSpec : ChangeSpec := { name := "fnExactBubblePressure", fn := fun _ => fun
  | [d1, d2] => { results := [.lit (.bool true)], args := [d1, d2] }
  | _ => none }
def fnExactBubblePressureRow : OpenClaim := { program := "ytfbnpihgmalamaa", sum := "17c9fdfe126dfabfba422d762a80ddaf393eb528faf768ed375d9d8a3f9e9463", func := "loop.example/g01222/laws.FnExactBubblePressure", spec := "fnExactBubblePressure", apart := false }
def FnExactBubblePressureSaid : Prop := fnExactBubblePressureRow.holds Try.pinned (OpenSpec.ofChange fnExactBubblePressureSpec)

/-- ITS FALSE NEIGHBOUR: 'it returns false'. Refute it at one input. -/
def fnExactBubblePressureWrong : ChangeSpec := { name := "fnExactBubblePressure", fn := fun _ => fun
  | [d1, d2] => { results := [.lit (.bool false)], args := [d1, d2] }
  | _ => none }
def FnExactBubblePressureWrongFalsely : Prop := fnExactBubblePressureRow.holds Try.pinned (OpenSpec.ofChange fnExactBubblePressureWrong)

/-- 'laws.FnExactWidestGap': WHATEVER THE INPUT: true; the input reads as it did. -/
def fnExactWidestGapSpec : ChangeSpec := { name := "fnExactWidestGap", fn := fun _ => fun
  | [d] => { results := [.lit (.bool true)], args := [d] }
  | _ => none }
def fnExactWidestGapRow : OpenClaim := { program := "ytfbnpihgmalamaa", sum := "17c9fdfe126dfabfba422d762a80ddaf393eb528faf768ed375d9d8a3f9e9463", func := "loop.example/g01222/laws.FnExactWidestGap", spec := "fnExactWidestGap", apart := false }
def FnExactWidestGapSaid : Prop := fnExactWidestGapRow.holds Try.pinned (OpenSpec.ofChange fnExactWidestGapSpec)

/-- ITS FALSE NEIGHBOUR: 'it returns false'. Refute it at one input. -/
def fnExactWidestGapWrong : ChangeSpec := { name := "fnExactWidestGap", fn := fun _ => fun
  | [d] => { results := [.lit (.bool false)], args := [d] }
  | _ => none }
def FnExactWidestGapWrongFalsely : Prop := fnExactWidestGapRow.holds Try.pinned (OpenSpec.ofChange fnExactWidestGapWrong)

/-- 'laws.FnExactDiscsArea': WHATEVER THE INPUT: true; the input reads as it did. -/
def fnExactDiscsAreaSpec : ChangeSpec := { name := "fnExactDiscsArea", fn := fun _ => fun
  | [d] => { results := [.lit (.bool true)], args := [d] }
  | _ => none }
def fnExactDiscsAreaRow : OpenClaim := { program := "ytfbnpihgmalamaa", sum := "17c9fdfe126dfabfba422d762a80ddaf393eb528faf768ed375d9d8a3f9e9463", func := "loop.example/g01222/laws.FnExactDiscsArea", spec := "fnExactDiscsArea", apart := false }
def FnExactDiscsAreaSaid : Prop := fnExactDiscsAreaRow.holds Try.pinned (OpenSpec.ofChange fnExactDiscsAreaSpec)

/-- ITS FALSE NEIGHBOUR: 'it returns false'. Refute it at one input. -/
def fnExactDiscsAreaWrong : ChangeSpec := { name := "fnExactDiscsArea", fn := fun _ => fun
  | [d] => { results := [.lit (.bool false)], args := [d] }
  | _ => none }
def FnExactDiscsAreaWrongFalsely : Prop := fnExactDiscsAreaRow.holds Try.pinned (OpenSpec.ofChange fnExactDiscsAreaWrong)

/-- 'laws.FnExactWallRadius': WHATEVER THE INPUT: true; the input reads as it did. -/
def fnExactWallRadiusSpec : ChangeSpec := { name := "fnExactWallRadius", fn := fun _ => fun
  | [d1, d2] => { results := [.lit (.bool true)], args := [d1, d2] }
  | _ => none }
def fnExactWallRadiusRow : OpenClaim := { program := "ytfbnpihgmalamaa", sum := "17c9fdfe126dfabfba422d762a80ddaf393eb528faf768ed375d9d8a3f9e9463", func := "loop.example/g01222/laws.FnExactWallRadius", spec := "fnExactWallRadius", apart := false }
def FnExactWallRadiusSaid : Prop := fnExactWallRadiusRow.holds Try.pinned (OpenSpec.ofChange fnExactWallRadiusSpec)

/-- ITS FALSE NEIGHBOUR: 'it returns false'. Refute it at one input. -/
def fnExactWallRadiusWrong : ChangeSpec := { name := "fnExactWallRadius", fn := fun _ => fun
  | [d1, d2] => { results := [.lit (.bool false)], args := [d1, d2] }
  | _ => none }
def FnExactWallRadiusWrongFalsely : Prop := fnExactWallRadiusRow.holds Try.pinned (OpenSpec.ofChange fnExactWallRadiusWrong)

/-- 'laws.FnExactCoshNumber': WHATEVER THE INPUT: true; the input reads as it did. -/
def fnExactCoshNumberSpec : ChangeSpec := { name := "fnExactCoshNumber", fn := fun _ => fun
  | [d] => { results := [.lit (.bool true)], args := [d] }
  | _ => none }
def fnExactCoshNumberRow : OpenClaim := { program := "ytfbnpihgmalamaa", sum := "17c9fdfe126dfabfba422d762a80ddaf393eb528faf768ed375d9d8a3f9e9463", func := "loop.example/g01222/laws.FnExactCoshNumber", spec := "fnExactCoshNumber", inPlace := ["math.Float64frombits"], apart := false }
def FnExactCoshNumberSaid : Prop := fnExactCoshNumberRow.holds Try.pinned (OpenSpec.ofChange fnExactCoshNumberSpec)

/-- ITS FALSE NEIGHBOUR: 'it returns false'. Refute it at one input. -/
def fnExactCoshNumberWrong : ChangeSpec := { name := "fnExactCoshNumber", fn := fun _ => fun
  | [d] => { results := [.lit (.bool false)], args := [d] }
  | _ => none }
def FnExactCoshNumberWrongFalsely : Prop := fnExactCoshNumberRow.holds Try.pinned (OpenSpec.ofChange fnExactCoshNumberWrong)

/-- 'laws.FnExactSinhNumber': WHATEVER THE INPUT: true; the input reads as it did. -/
def fnExactSinhNumberSpec : ChangeSpec := { name := "fnExactSinhNumber", fn := fun _ => fun
  | [d] => { results := [.lit (.bool true)], args := [d] }
  | _ => none }
def fnExactSinhNumberRow : OpenClaim := { program := "ytfbnpihgmalamaa", sum := "17c9fdfe126dfabfba422d762a80ddaf393eb528faf768ed375d9d8a3f9e9463", func := "loop.example/g01222/laws.FnExactSinhNumber", spec := "fnExactSinhNumber", inPlace := ["math.Float64frombits"], apart := false }
def FnExactSinhNumberSaid : Prop := fnExactSinhNumberRow.holds Try.pinned (OpenSpec.ofChange fnExactSinhNumberSpec)

/-- ITS FALSE NEIGHBOUR: 'it returns false'. Refute it at one input. -/
def fnExactSinhNumberWrong : ChangeSpec := { name := "fnExactSinhNumber", fn := fun _ => fun
  | [d] => { results := [.lit (.bool false)], args := [d] }
  | _ => none }
def FnExactSinhNumberWrongFalsely : Prop := fnExactSinhNumberRow.holds Try.pinned (OpenSpec.ofChange fnExactSinhNumberWrong)

/- THE SECOND FORM. 'bulk': how many values and letters a reading holds, each counted each time it is reached (what is shared counts as often as it is met; a slice's spare places count too). A statement '..UptoSaid' is the law's where the arguments, and the package variables that the reading takes, are together of bulk at most 1048576: NARROWER than '..Said'. Prove '..Said' where nothing that the law and all that it calls make is longer than what came in: it says more and counts as full. Else prove '..UptoSaid'. A law counts once. -/
mutual
def uptoBulk {H : Type} : DataW H → Nat
  | .lit (.string bytes) => bytes.length + 1
  | .lit _ => 1
  | .nil => 1
  | .ptr d => uptoBulk d + 1
  | .slice elems spare => uptoBulkAll elems + uptoBulkAll spare + 1
  | .agg parts => uptoBulkAll parts + 1
  | .iface _ d => uptoBulk d + 1
  | .map entries => uptoBulkEntries entries + 1
  | .held _ => 1
def uptoBulkAll {H : Type} : List (DataW H) → Nat
  | [] => 0
  | d :: r => uptoBulk d + uptoBulkAll r
def uptoBulkEntries {H : Type} : List (Lit × DataW H) → Nat
  | [] => 0
  | x :: r => uptoBulkEntry x + uptoBulkEntries r
def uptoBulkEntry {H : Type} : Lit × DataW H → Nat
  | (.string bytes, d) => bytes.length + uptoBulk d + 1
  | (_, d) => uptoBulk d + 1
 end
def uptoSmall : (H : Type) → List (DataW H) → Bool := fun _ ds => decide (uptoBulkAll ds ≤ 1048576)
def OpenSpec.upto (s : _root_.Go.ChangeSpec) : _root_.Go.OpenSpec := { _root_.Go.OpenSpec.ofChange s with cond := some uptoSmall }

/-- 'laws.FnExactBubblePressure', WHERE WHAT IT READS IS OF BULK AT MOST 1048576: true; the input reads as it did. -/
def fnExactBubblePressureUptoRow : OpenClaim := { program := "ytfbnpihgmalamaa", sum := "17c9fdfe126dfabfba422d762a80ddaf393eb528faf768ed375d9d8a3f9e9463", func := "loop.example/g01222/laws.FnExactBubblePressure", spec := "fnExactBubblePressure", apart := false, narrowed := true }
def FnExactBubblePressureUptoSaid : Prop := fnExactBubblePressureUptoRow.holds Try.pinned (OpenSpec.upto fnExactBubblePressureSpec)

/-- 'laws.FnExactWidestGap', WHERE WHAT IT READS IS OF BULK AT MOST 1048576: true; the input reads as it did. -/
def fnExactWidestGapUptoRow : OpenClaim := { program := "ytfbnpihgmalamaa", sum := "17c9fdfe126dfabfba422d762a80ddaf393eb528faf768ed375d9d8a3f9e9463", func := "loop.example/g01222/laws.FnExactWidestGap", spec := "fnExactWidestGap", apart := false, narrowed := true }
def FnExactWidestGapUptoSaid : Prop := fnExactWidestGapUptoRow.holds Try.pinned (OpenSpec.upto fnExactWidestGapSpec)

/-- 'laws.FnExactDiscsArea', WHERE WHAT IT READS IS OF BULK AT MOST 1048576: true; the input reads as it did. -/
def fnExactDiscsAreaUptoRow : OpenClaim := { program := "ytfbnpihgmalamaa", sum := "17c9fdfe126dfabfba422d762a80ddaf393eb528faf768ed375d9d8a3f9e9463", func := "loop.example/g01222/laws.FnExactDiscsArea", spec := "fnExactDiscsArea", apart := false, narrowed := true }
def FnExactDiscsAreaUptoSaid : Prop := fnExactDiscsAreaUptoRow.holds Try.pinned (OpenSpec.upto fnExactDiscsAreaSpec)

/-- 'laws.FnExactWallRadius', WHERE WHAT IT READS IS OF BULK AT MOST 1048576: true; the input reads as it did. -/
def fnExactWallRadiusUptoRow : OpenClaim := { program := "ytfbnpihgmalamaa", sum := "17c9fdfe126dfabfba422d762a80ddaf393eb528faf768ed375d9d8a3f9e9463", func := "loop.example/g01222/laws.FnExactWallRadius", spec := "fnExactWallRadius", apart := false, narrowed := true }
def FnExactWallRadiusUptoSaid : Prop := fnExactWallRadiusUptoRow.holds Try.pinned (OpenSpec.upto fnExactWallRadiusSpec)

/-- 'laws.FnExactCoshNumber', WHERE WHAT IT READS IS OF BULK AT MOST 1048576: true; the input reads as it did. -/
def fnExactCoshNumberUptoRow : OpenClaim := { program := "ytfbnpihgmalamaa", sum := "17c9fdfe126dfabfba422d762a80ddaf393eb528faf768ed375d9d8a3f9e9463", func := "loop.example/g01222/laws.FnExactCoshNumber", spec := "fnExactCoshNumber", inPlace := ["math.Float64frombits"], apart := false, narrowed := true }
def FnExactCoshNumberUptoSaid : Prop := fnExactCoshNumberUptoRow.holds Try.pinned (OpenSpec.upto fnExactCoshNumberSpec)

/-- 'laws.FnExactSinhNumber', WHERE WHAT IT READS IS OF BULK AT MOST 1048576: true; the input reads as it did. -/
def fnExactSinhNumberUptoRow : OpenClaim := { program := "ytfbnpihgmalamaa", sum := "17c9fdfe126dfabfba422d762a80ddaf393eb528faf768ed375d9d8a3f9e9463", func := "loop.example/g01222/laws.FnExactSinhNumber", spec := "fnExactSinhNumber", inPlace := ["math.Float64frombits"], apart := false, narrowed := true }
def FnExactSinhNumberUptoSaid : Prop := fnExactSinhNumberUptoRow.holds Try.pinned (OpenSpec.upto fnExactSinhNumberSpec)

end Rows
end Go.Proofs.Ytfbnpihgmalamaa
