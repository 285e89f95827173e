/-
  Which meshes are valid; copies.
-/
import Derived.Test.YtbaijndhllhplaaK6
set_option maxHeartbeats 4000000
namespace Vs
open Go
theorem getD_lt {α : Type} {l : List α} {i : Nat} {d : α} (h : i < l.length) : l.getD i d = l[i] := by
 rw [List.getD_eq_getElem?_getD, List.getElem?_eq_getElem h]
 rfl
attribute [local irreducible] tif tjoin IntKind.wrap feq fadd fmul fsub fdiv fgt i2f wide vl il tl inr

end Vs
