/-
  WithoutPart: what the functions compute, and the law.
-/
import Derived.Test.YthgocnlbnghbbaaK3
namespace Vs
open Go

attribute [local irreducible] tif tjoin IntKind.wrap feq fadd fmul fsub fdiv fgt i2f wide vl innerP

end Vs
