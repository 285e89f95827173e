/-
  How thick triangles are: ThicknessOf, ThinTriangles.
-/
import Derived.Test.YtflfikfcbohddaaK8
namespace Vs
open Go
attribute [local irreducible] tif tjoin IntKind.wrap feq fadd fmul fsub fdiv fgt i2f sameP wide eqV vl il tl totL szM szP marksV marksT inr triP validP flt

end Vs
