/-
  Flips of edges, what is gained by them, and the laws CanFlip, FlipGain, FlipEdge.
-/
import Derived.Test.YtaakjnkllodchaaGreatK28
import Derived.Test.YtaakjnkllodchaaGreatMf4
set_option maxHeartbeats 4000000
namespace Vs
open Go Go.Sort
theorem tri3 {n : Nat} {ts : List (List Int)} (hv : validP n ts = true) : ∀ u ∈ ts, u.length = 3 := fun u hu => by
 obtain ⟨x, y, z, rfl, _⟩ := triOk_of hv u hu
 rfl
attribute [local irreducible] IntKind.wrap il tl vl bo mpD kD inr validP sheetP longP fsub lenP atV flC flD oneI twoI pairP flipQ atL

end Vs
