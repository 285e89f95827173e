/-
  How thick triangles are: ThicknessOf, ThinTriangles.
-/
import Derived.Test.YtbaijndhllhplaaK8
set_option maxHeartbeats 4000000
namespace Vs
open Go
def longV (v : V3) : Nat := longP v.x v.y v.z
attribute [local irreducible] tif tjoin IntKind.wrap feq fadd fmul fsub fdiv fgt i2f wide vl il tl inr innerP longP rootP flt

end Vs
