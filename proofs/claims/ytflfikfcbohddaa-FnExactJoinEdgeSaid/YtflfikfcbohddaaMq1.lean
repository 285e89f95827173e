/-
  What is taken from one float another way round is its opposite: its square is the same.
-/
import Derived.Test.YtflfikfcbohddaaMf4
namespace Vs
open Go Ieee
end Vs
