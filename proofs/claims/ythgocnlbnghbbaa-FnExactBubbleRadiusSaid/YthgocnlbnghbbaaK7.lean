/-
  Which meshes are valid; copies.
-/
import Derived.Test.YthgocnlbnghbbaaK6
namespace Vs
open Go

attribute [local irreducible] tif tjoin IntKind.wrap feq fadd fmul fsub fdiv fgt i2f sameP wide

end Vs
