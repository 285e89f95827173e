/-
  WithoutPart: what the functions compute, and the law.
-/
import Derived.Test.YtbaijndhllhplaaK3
set_option maxHeartbeats 4000000
namespace Vs
open Go
def lessV (v w : V3) : V3 := ⟨fsub .f32 v.x w.x, fsub .f32 v.y w.y, fsub .f32 v.z w.z⟩
def dotV (v w : V3) : Nat := innerP v.x v.y v.z w.x w.y w.z
attribute [local irreducible] tif tjoin IntKind.wrap feq fadd fmul fsub fdiv fgt i2f wide vl innerP

end Vs
