/-
  The ball's edges.
-/
import Derived.Test.YtaakjnkllodchaaK49
set_option maxHeartbeats 4000000
namespace Vs
open Go Go.Sort
set_option maxRecDepth 100000
theorem be1_10 : edgeOk 18 ft4 (1, 10) = true := by decide +kernel
theorem be1_11 : edgeOk 18 ft4 (1, 11) = true := by decide +kernel
theorem be1_12 : edgeOk 18 ft4 (1, 12) = true := by decide +kernel
theorem be1_13 : edgeOk 18 ft4 (1, 13) = true := by decide +kernel
end Vs
