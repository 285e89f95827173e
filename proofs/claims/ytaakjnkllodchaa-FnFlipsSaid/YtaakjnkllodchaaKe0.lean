/-
  The ball's edges.
-/
import Derived.Test.YtaakjnkllodchaaK49
set_option maxHeartbeats 4000000
namespace Vs
open Go Go.Sort
set_option maxRecDepth 100000
theorem be0_6 : edgeOk 18 ft4 (0, 6) = true := by decide +kernel
theorem be0_7 : edgeOk 18 ft4 (0, 7) = true := by decide +kernel
theorem be0_8 : edgeOk 18 ft4 (0, 8) = true := by decide +kernel
theorem be0_9 : edgeOk 18 ft4 (0, 9) = true := by decide +kernel
end Vs
