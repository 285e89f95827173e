/-
  Lists of vectors: what laws do with them (length, copy, compare, mark, look at the marks).
-/
import Derived.Test.YthgocnlbnghbbaaD
import Derived.Test.YthgocnlbnghbbaaC
namespace Vs
open Go

/-! ### Lists of vectors -/
/-! ### Steps -/
theorem add1 {i : Int} (h0 : 0 ≤ i) (h : i < 4611686018427387904) : gev none (.iar .add .i64) [.int i, .int 1] = some (.int (i + 1)) := by
  have e : gev none (.iar .add .i64) [.int i, .int 1] = some (.int (IntKind.wrap .i64 (i + 1))) := rfl
  rw [e, wrapU h0 h]
theorem add1n {i : Nat} (h : i < 1048576) : gev none (.iar .add .i64) [.int i, .int 1] = some (.int ((i + 1 : Nat) : Int)) := add1 (by omega) (by omega)
/-! ### What laws do -/
attribute [local irreducible] tif tjoin IntKind.wrap feq fadd fmul fsub fdiv fgt i2f sameP wide

/-! ### Arguments -/
end Vs
