/-
  WithoutPart: what the functions compute, and the law.
-/
import Derived.Test.YtaakjnkllodchaaK3
set_option maxHeartbeats 4000000
namespace Vs
open Go
attribute [local irreducible] tif tjoin IntKind.wrap feq fadd fmul fsub fdiv fgt i2f wide vl innerP

end Vs
