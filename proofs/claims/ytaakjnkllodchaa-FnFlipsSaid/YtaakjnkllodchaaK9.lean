/-
  How thick triangles are: ThicknessOf, ThinTriangles.
-/
import Derived.Test.YtaakjnkllodchaaK8
set_option maxHeartbeats 4000000
namespace Vs
open Go
attribute [local irreducible] tif tjoin IntKind.wrap feq fadd fmul fsub fdiv fgt i2f wide vl il tl totL szM inr triP validP innerP longP rootP flt

end Vs
