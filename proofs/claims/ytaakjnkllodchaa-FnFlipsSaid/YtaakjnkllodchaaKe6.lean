/-
  The ball's edges.
-/
import Derived.Test.YtaakjnkllodchaaK49
set_option maxHeartbeats 4000000
namespace Vs
open Go Go.Sort
set_option maxRecDepth 100000
theorem be6_8 : edgeOk 18 ft4 (6, 8) = true := by decide +kernel
theorem be6_9 : edgeOk 18 ft4 (6, 9) = true := by decide +kernel
theorem be6_14 : edgeOk 18 ft4 (6, 14) = true := by decide +kernel
theorem be6_15 : edgeOk 18 ft4 (6, 15) = true := by decide +kernel
end Vs
