/-
  ShrinkRing: what the functions compute, and the law.
-/
import Derived.Test.YthgocnlbnghbbaaK7
namespace Vs
open Go

attribute [local irreducible] tif tjoin IntKind.wrap feq fadd fmul fsub fdiv fgt i2f wide vl il tl totL szM inr triP validP

/-! ### Arguments -/
end Vs
