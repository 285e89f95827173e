/-
  What is taken from one float another way round is its opposite: its square is the same.
-/
import Derived.Test.YtaakjnkllodchaaGreatMf4
set_option maxHeartbeats 4000000
namespace Vs
open Go Ieee
end Vs
