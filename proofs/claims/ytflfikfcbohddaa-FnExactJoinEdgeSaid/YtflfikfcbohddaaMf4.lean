/-
  The floating-point operations of the program, by rungs; how numbers compare; narrowing and widening.
-/
import Derived.Test.YtflfikfcbohddaaMf3
namespace Vs
open Go Ieee

variable {k : FloatKind} {x y : Nat}
abbrev rk (k : FloatKind) (x : Nat) : Nat := rg k.format x
abbrev Vk (k : FloatKind) (r : Nat) : Nat := V k.format r
/-- The unit's place, turned. -/
abbrev dn (k : FloatKind) : Nat := 2 ^ (-k.format.leastPlace).toNat
/-- A finite float with its sign, in units of the least place. -/
def sv (k : FloatKind) (x : Nat) : Int := if sgn k.format x = true then -(Vk k (rk k x) : Int) else Vk k (rk k x)

/-! ### Magnitudes -/
/-! ### How numbers compare -/
end Vs
