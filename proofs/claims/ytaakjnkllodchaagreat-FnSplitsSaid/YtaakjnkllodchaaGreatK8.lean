/-
  ShrinkRing: what the functions compute, and the law.
-/
import Derived.Test.YtaakjnkllodchaaGreatK7
set_option maxHeartbeats 4000000
namespace Vs
open Go
theorem vl_nil : vl [] = .lst [] := rfl
theorem tl_nil : tl [] = .lst [] := rfl
theorem il_nil : il [] = .lst [] := rfl
attribute [local irreducible] tif tjoin IntKind.wrap feq fadd fmul fsub fdiv fgt i2f wide vl il tl totL szM inr triP validP

end Vs
