/-
  Pairs of places, flips of edges, what is gained.
-/
import Derived.Test.YtaakjnkllodchaaK27
set_option maxHeartbeats 4000000
namespace Vs
open Go Go.Sort
def atV (vs : List V3) (p : Int) : V3 := vs.getD p.toNat ⟨0, 0, 0⟩
attribute [local irreducible] IntKind.wrap il tl vl bo inr validP sheetP longP fsub

end Vs
