/-
  CutHole, and its law.
-/
import Derived.Test.YtaakjnkllodchaaGreatK9
import Derived.Test.YtaakjnkllodchaaGreatNx3
set_option maxHeartbeats 4000000
namespace Vs
open Go Go.Sort
theorem inr_iff' {n p : Int} : inr n p = true ↔ 0 ≤ p ∧ p < n := by
 unfold inr
 simp only [Bool.and_eq_true, decide_eq_true_eq]
 omega
theorem mk_0t : gev none .mklst [] = some (tl []) := by unfold tl; rfl
attribute [local irreducible] IntKind.wrap il tl vl inr validP szM

end Vs
