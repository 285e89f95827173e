/-
  The floating-point operations of the program, by rungs; how numbers compare; narrowing and widening.
-/
import Derived.Test.YtaakjnkllodchaaGreatMf3
set_option maxHeartbeats 4000000
namespace Vs
open Go Ieee
variable {k : FloatKind} {x y : Nat}
abbrev rk (k : FloatKind) (x : Nat) : Nat := rg k.format x
abbrev Vk (k : FloatKind) (r : Nat) : Nat := V k.format r
abbrev dn (k : FloatKind) : Nat := 2 ^ (-k.format.leastPlace).toNat
def sv (k : FloatKind) (x : Nat) : Int := if sgn k.format x = true then -(Vk k (rk k x) : Int) else Vk k (rk k x)
end Vs
