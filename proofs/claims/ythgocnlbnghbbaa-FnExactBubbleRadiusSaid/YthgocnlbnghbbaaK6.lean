/-
  Meshes: lists of vectors beside lists of lists of whole numbers; what laws do with them; copies; which are valid.
-/
import Derived.Test.YthgocnlbnghbbaaK5
import Derived.Test.YthgocnlbnghbbaaC
namespace Vs
open Go

/-! ### Lists of whole numbers, lists of these -/
/-! ### Loops -/
/-! ### Sizes -/
/-! ### Valid meshes -/
attribute [local irreducible] tif tjoin IntKind.wrap feq fadd fmul fsub fdiv fgt i2f sameP wide

end Vs
