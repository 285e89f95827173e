/-
  No cell of these rows narrows 'for every input' (looked for: loops, veiled, ifaces, maps, wideKeys, modest, calm, conditions, laid).
  DERIVED. THE GIVEN ROWS OF THIS SEAT. 3 by the template 'for every input the law returns true; each argument reads behind the call as it read before'; 0 by the template 'total and deterministic' (their statements: YtaakjnkllodchaaTotals.lean).
  GIVEN WITH THE SEED: the statements are not yours to turn. If you find one false, say at which input.
  Laid BY PROGRAM, IN A SANDBOX (cutbox-rows.mjs): the forced cells as the released guide's own fill.sh prints them over the translation fe696934cc2a0b95… (all of the seat's roots in one cut). By AI agents, Wed Nov 11 2026. No macro, syntax, notation, axiom, sorry.
-/
import Derived.Test.YtaakjnkllodchaaChecked
import GoSem.Claim
import GoSem.ClaimJoined
import GoSem.ClaimMapViews
import Derived.JoinedTies
import Derived.KernelRfl
namespace Go.Proofs.Ytaakjnkllodchaa
/- THE CELL 'sum', in the pinned program and in every row, IS THE sha256 OF THE DUMP (.gsa) THAT YtaakjnkllodchaaProg.lean LOADS. Nothing in Lean hashes anything: it is a label: what it is worth is what the hold of that sum in a sandbox is worth. -/
noncomputable def Try.pinned : Pinned := { name := "ytaakjnkllodchaa", sum := "fe696934cc2a0b95fdfd806459a77bdae32e9d7410f4c32c9edf60e78b70f5ea", checked := Try.checked }
namespace Rows
def none {H : Type} : Left H := { results := [], args := [] }

/-- 'laws.FnExactCutHole': WHATEVER THE INPUT: true; the input reads as it did. -/
def fnExactCutHoleSpec : ChangeSpec := { name := "fnExactCutHole", fn := fun _ => fun
  | [d1, d2] => { results := [.lit (.bool true)], args := [d1, d2] }
  | _ => none }
def fnExactCutHoleRow : OpenClaim := { program := "ytaakjnkllodchaa", sum := "fe696934cc2a0b95fdfd806459a77bdae32e9d7410f4c32c9edf60e78b70f5ea", func := "loop.example/g01222/laws.FnExactCutHole", spec := "fnExactCutHole", plainKeys := false, apart := false }
def FnExactCutHoleSaid : Prop := fnExactCutHoleRow.holds Try.pinned (OpenSpec.ofChange fnExactCutHoleSpec)

/-- ITS FALSE NEIGHBOUR: 'it returns false'. Refute it at one input. -/
def fnExactCutHoleWrong : ChangeSpec := { name := "fnExactCutHole", fn := fun _ => fun
  | [d1, d2] => { results := [.lit (.bool false)], args := [d1, d2] }
  | _ => none }
def FnExactCutHoleWrongFalsely : Prop := fnExactCutHoleRow.holds Try.pinned (OpenSpec.ofChange fnExactCutHoleWrong)

/-- 'laws.FnFlips': WHATEVER THE INPUT: true; the input reads as it did. -/
def fnFlipsSpec : ChangeSpec := { name := "fnFlips", fn := fun _ => fun
  | [d1, d2] => { results := [.lit (.bool true)], args := [d1, d2] }
  | _ => none }
def fnFlipsRow : OpenClaim := { program := "ytaakjnkllodchaa", sum := "fe696934cc2a0b95fdfd806459a77bdae32e9d7410f4c32c9edf60e78b70f5ea", func := "loop.example/g01222/laws.FnFlips", spec := "fnFlips", inPlace := ["math.Float64frombits", "math.sqrt"], unfollowed := true, recurses := true, plainKeys := false, apart := false }
def FnFlipsSaid : Prop := fnFlipsRow.holds Try.pinned (OpenSpec.ofChange fnFlipsSpec)

/-- ITS FALSE NEIGHBOUR: 'it returns false'. Refute it at one input. -/
def fnFlipsWrong : ChangeSpec := { name := "fnFlips", fn := fun _ => fun
  | [d1, d2] => { results := [.lit (.bool false)], args := [d1, d2] }
  | _ => none }
def FnFlipsWrongFalsely : Prop := fnFlipsRow.holds Try.pinned (OpenSpec.ofChange fnFlipsWrong)

/-- 'laws.FnThick': WHATEVER THE INPUT: true; the input reads as it did. -/
def fnThickSpec : ChangeSpec := { name := "fnThick", fn := fun _ => fun
  | [d1, d2] => { results := [.lit (.bool true)], args := [d1, d2] }
  | _ => none }
def fnThickRow : OpenClaim := { program := "ytaakjnkllodchaa", sum := "fe696934cc2a0b95fdfd806459a77bdae32e9d7410f4c32c9edf60e78b70f5ea", func := "loop.example/g01222/laws.FnThick", spec := "fnThick", inPlace := ["math.Float64frombits", "math.sqrt", "math.Float64bits"], unfollowed := true, recurses := true, plainKeys := false, apart := false }
def FnThickSaid : Prop := fnThickRow.holds Try.pinned (OpenSpec.ofChange fnThickSpec)

/-- ITS FALSE NEIGHBOUR: 'it returns false'. Refute it at one input. -/
def fnThickWrong : ChangeSpec := { name := "fnThick", fn := fun _ => fun
  | [d1, d2] => { results := [.lit (.bool false)], args := [d1, d2] }
  | _ => none }
def FnThickWrongFalsely : Prop := fnThickRow.holds Try.pinned (OpenSpec.ofChange fnThickWrong)

/- THE SECOND FORM. 'bulk': how many values and letters a reading holds, each counted each time it is reached (what is shared counts as often as it is met; a slice's spare places count too). A statement '..UptoSaid' is the law's where the arguments, and the package variables that the reading takes, are together of bulk at most 1048576: NARROWER than '..Said'. Prove '..Said' where nothing that the law and all that it calls make is longer than what came in: it says more and counts as full. Else prove '..UptoSaid'. A law counts once. -/
mutual
def uptoBulk {H : Type} : DataW H → Nat
  | .lit (.string bytes) => bytes.length + 1
  | .lit _ => 1
  | .nil => 1
  | .ptr d => uptoBulk d + 1
  | .slice elems spare => uptoBulkAll elems + uptoBulkAll spare + 1
  | .agg parts => uptoBulkAll parts + 1
  | .iface _ d => uptoBulk d + 1
  | .map entries => uptoBulkEntries entries + 1
  | .held _ => 1
def uptoBulkAll {H : Type} : List (DataW H) → Nat
  | [] => 0
  | d :: r => uptoBulk d + uptoBulkAll r
def uptoBulkEntries {H : Type} : List (Lit × DataW H) → Nat
  | [] => 0
  | x :: r => uptoBulkEntry x + uptoBulkEntries r
def uptoBulkEntry {H : Type} : Lit × DataW H → Nat
  | (.string bytes, d) => bytes.length + uptoBulk d + 1
  | (_, d) => uptoBulk d + 1
 end
def uptoSmall : (H : Type) → List (DataW H) → Bool := fun _ ds => decide (uptoBulkAll ds ≤ 1048576)
def OpenSpec.upto (s : _root_.Go.ChangeSpec) : _root_.Go.OpenSpec := { _root_.Go.OpenSpec.ofChange s with cond := some uptoSmall }

/-- 'laws.FnExactCutHole', WHERE WHAT IT READS IS OF BULK AT MOST 1048576: true; the input reads as it did. -/
def fnExactCutHoleUptoRow : OpenClaim := { program := "ytaakjnkllodchaa", sum := "fe696934cc2a0b95fdfd806459a77bdae32e9d7410f4c32c9edf60e78b70f5ea", func := "loop.example/g01222/laws.FnExactCutHole", spec := "fnExactCutHole", plainKeys := false, apart := false, narrowed := true }
def FnExactCutHoleUptoSaid : Prop := fnExactCutHoleUptoRow.holds Try.pinned (OpenSpec.upto fnExactCutHoleSpec)

/-- 'laws.FnFlips', WHERE WHAT IT READS IS OF BULK AT MOST 1048576: true; the input reads as it did. -/
def fnFlipsUptoRow : OpenClaim := { program := "ytaakjnkllodchaa", sum := "fe696934cc2a0b95fdfd806459a77bdae32e9d7410f4c32c9edf60e78b70f5ea", func := "loop.example/g01222/laws.FnFlips", spec := "fnFlips", inPlace := ["math.Float64frombits", "math.sqrt"], unfollowed := true, recurses := true, plainKeys := false, apart := false, narrowed := true }
def FnFlipsUptoSaid : Prop := fnFlipsUptoRow.holds Try.pinned (OpenSpec.upto fnFlipsSpec)

/-- 'laws.FnThick', WHERE WHAT IT READS IS OF BULK AT MOST 1048576: true; the input reads as it did. -/
def fnThickUptoRow : OpenClaim := { program := "ytaakjnkllodchaa", sum := "fe696934cc2a0b95fdfd806459a77bdae32e9d7410f4c32c9edf60e78b70f5ea", func := "loop.example/g01222/laws.FnThick", spec := "fnThick", inPlace := ["math.Float64frombits", "math.sqrt", "math.Float64bits"], unfollowed := true, recurses := true, plainKeys := false, apart := false, narrowed := true }
def FnThickUptoSaid : Prop := fnThickUptoRow.holds Try.pinned (OpenSpec.upto fnThickSpec)

end Rows
end Go.Proofs.Ytaakjnkllodchaa
