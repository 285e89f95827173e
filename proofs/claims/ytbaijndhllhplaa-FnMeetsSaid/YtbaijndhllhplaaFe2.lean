/-
  Floats that are scaled by a power of two: what the operations give is scaled, where nothing is too small.
-/
import Derived.Test.YtbaijndhllhplaaFe1
import Derived.Test.YtbaijndhllhplaaMf4
set_option maxHeartbeats 4000000
namespace Vs
open Go Ieee
variable {k : FloatKind} {x y : Nat}
variable {c : Nat} {x' y' : Nat}
theorem V_rep (f : Format) {j : Nat} (hj : j < 2 ^ (f.fractionBits + 1)) : ∀ t, ∃ q, V f q = j * 2 ^ t
 | 0 => ⟨j, by rw [V_low (by rw [Nat.pow_succ] at hj; show j < 2 * 2 ^ f.fractionBits; omega), Nat.pow_zero, Nat.mul_one]⟩
 | t + 1 => by obtain ⟨q, hq⟩ := V_rep f hj t;obtain ⟨q', hq'⟩ := V_dbl f q;exact ⟨q', by rw [hq', hq, Nat.pow_succ]; generalize 2 ^ t = w; grind⟩
end Vs
