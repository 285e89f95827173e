/-
  NormVectors: what the functions compute, and the law.
-/
import Derived.Test.YtaakjnkllodchaaK4
set_option maxHeartbeats 4000000
namespace Vs
open Go
attribute [local irreducible] tif tjoin IntKind.wrap feq fadd fmul fsub fdiv fgt i2f wide vl innerP rootP overP finP

end Vs
