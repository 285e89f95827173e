/-
  The ball's edges.
-/
import Derived.Test.YtaakjnkllodchaaK49
set_option maxHeartbeats 4000000
namespace Vs
open Go Go.Sort
set_option maxRecDepth 100000
theorem be4_8 : edgeOk 18 ft4 (4, 8) = true := by decide +kernel
theorem be4_12 : edgeOk 18 ft4 (4, 12) = true := by decide +kernel
theorem be4_14 : edgeOk 18 ft4 (4, 14) = true := by decide +kernel
theorem be4_16 : edgeOk 18 ft4 (4, 16) = true := by decide +kernel
end Vs
