/-
  The floating-point operations of the program, by rungs; how numbers compare; narrowing and widening.
-/
import Derived.Test.YtflfikfcbohddaaMf3
namespace Vs
open Go Ieee

variable {k : FloatKind} {x y : Nat}
/-! ### Magnitudes -/
/-! ### How numbers compare -/
end Vs
