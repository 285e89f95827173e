/-
  Lists of vectors: what laws do with them (length, copy, compare, mark, look at the marks).
-/
import Derived.Test.YthgocnlbnghbbaaD
import Derived.Test.YthgocnlbnghbbaaC
namespace Vs
open Go

/-! ### Lists of vectors -/
/-! ### Steps -/
/-! ### What laws do -/
attribute [local irreducible] tif tjoin IntKind.wrap feq fadd fmul fsub fdiv fgt i2f wide

/-! ### Arguments -/
end Vs
