/-
  An edge is split, and the law SplitEdge.
-/
import Derived.Test.YtaakjnkllodchaaGreatK29
set_option maxHeartbeats 4000000
namespace Vs
open Go Go.Sort
attribute [local irreducible] IntKind.wrap il tl vl bo mpD kD inr validP longP fsub atL thirdP fgt flt fge

attribute [local irreducible] tif tjoin feq fadd fmul fdiv i2f sameP wide eqV totL szM szP marksV marksT triP

end Vs
