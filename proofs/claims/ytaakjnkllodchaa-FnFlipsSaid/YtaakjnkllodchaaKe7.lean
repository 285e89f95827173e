/-
  The ball's edges.
-/
import Derived.Test.YtaakjnkllodchaaK49
set_option maxHeartbeats 4000000
namespace Vs
open Go Go.Sort
set_option maxRecDepth 100000
theorem be7_8 : edgeOk 18 ft4 (7, 8) = true := by decide +kernel
theorem be7_9 : edgeOk 18 ft4 (7, 9) = true := by decide +kernel
theorem be7_16 : edgeOk 18 ft4 (7, 16) = true := by decide +kernel
theorem be7_17 : edgeOk 18 ft4 (7, 17) = true := by decide +kernel
end Vs
