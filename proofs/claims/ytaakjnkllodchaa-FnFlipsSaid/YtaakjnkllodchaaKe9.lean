/-
  The ball's edges.
-/
import Derived.Test.YtaakjnkllodchaaK49
set_option maxHeartbeats 4000000
namespace Vs
open Go Go.Sort
set_option maxRecDepth 100000
theorem be10_12 : edgeOk 18 ft4 (10, 12) = true := by decide +kernel
theorem be10_13 : edgeOk 18 ft4 (10, 13) = true := by decide +kernel
theorem be10_14 : edgeOk 18 ft4 (10, 14) = true := by decide +kernel
theorem be10_15 : edgeOk 18 ft4 (10, 15) = true := by decide +kernel
end Vs
