/-
  The ball's edges.
-/
import Derived.Test.YtaakjnkllodchaaK49
set_option maxHeartbeats 4000000
namespace Vs
open Go Go.Sort
set_option maxRecDepth 100000
theorem be8_14 : edgeOk 18 ft4 (8, 14) = true := by decide +kernel
theorem be8_16 : edgeOk 18 ft4 (8, 16) = true := by decide +kernel
theorem be9_15 : edgeOk 18 ft4 (9, 15) = true := by decide +kernel
theorem be9_17 : edgeOk 18 ft4 (9, 17) = true := by decide +kernel
end Vs
