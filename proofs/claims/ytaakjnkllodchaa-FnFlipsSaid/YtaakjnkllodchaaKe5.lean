/-
  The ball's edges.
-/
import Derived.Test.YtaakjnkllodchaaK49
set_option maxHeartbeats 4000000
namespace Vs
open Go Go.Sort
set_option maxRecDepth 100000
theorem be5_9 : edgeOk 18 ft4 (5, 9) = true := by decide +kernel
theorem be5_13 : edgeOk 18 ft4 (5, 13) = true := by decide +kernel
theorem be5_15 : edgeOk 18 ft4 (5, 15) = true := by decide +kernel
theorem be5_17 : edgeOk 18 ft4 (5, 17) = true := by decide +kernel
end Vs
