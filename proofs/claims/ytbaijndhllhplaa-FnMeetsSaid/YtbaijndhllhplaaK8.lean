/-
  ShrinkRing: what the functions compute, and the law.
-/
import Derived.Test.YtbaijndhllhplaaK7
set_option maxHeartbeats 4000000
namespace Vs
open Go
def lawM (vs : List V3) (ts : List (List Int)) : Prop := vs.length < 9223372036854775808 ∧ ts.length < 9223372036854775808 ∧ ∀ t ∈ ts, t.length < 9223372036854775808
attribute [local irreducible] tif tjoin IntKind.wrap feq fadd fmul fsub fdiv fgt i2f wide vl il tl inr

end Vs
