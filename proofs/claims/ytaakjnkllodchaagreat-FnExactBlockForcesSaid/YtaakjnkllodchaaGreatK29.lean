/-
  Flips of edges, what is gained by them, and the laws CanFlip, FlipGain, FlipEdge.
-/
import Derived.Test.YtaakjnkllodchaaGreatK28
import Derived.Test.YtaakjnkllodchaaGreatMq1
set_option maxHeartbeats 4000000
namespace Vs
open Go Go.Sort
attribute [local irreducible] IntKind.wrap il tl vl bo mpD kD inr validP longP fsub atL

end Vs
