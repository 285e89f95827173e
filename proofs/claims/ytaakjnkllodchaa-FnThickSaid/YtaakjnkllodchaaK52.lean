/-
  Flips: the law.
-/
import Derived.Test.YtaakjnkllodchaaK51
import Derived.Test.YtaakjnkllodchaaB0
set_option maxHeartbeats 4000000
namespace Vs
open Go Go.Sort
theorem szF : ∀ k, (formV k).length + (formT k).length + totL (formT k) ≤ 1000
 | 0 => by decide
 | 1 => by decide
 | 2 => by decide
 | 3 => by decide
 | _ + 4 => (by decide : fv4.length + ft4.length + totL ft4 ≤ 1000)
theorem eql_self {x : Int} : gev none (.icm .eql) [.int x, .int x] = some (.bool true) := by rw [p_eql, beq_self_eq_true]
attribute [local irreducible] tif tjoin IntKind.wrap il tl vl F220 F221 F543 F544 edgL formV formT mvA validP sheetP

end Vs
