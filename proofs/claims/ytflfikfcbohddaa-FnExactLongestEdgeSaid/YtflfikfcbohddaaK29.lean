/-
  Flips of edges, what is gained by them, and the laws CanFlip, FlipGain, FlipEdge.
-/
import Derived.Test.YtflfikfcbohddaaK28
import Derived.Test.YtflfikfcbohddaaMq1
namespace Vs
open Go Go.Sort

attribute [local irreducible] IntKind.wrap il tl vl bo mpD kD inr validP longP fsub lenP atV

end Vs
