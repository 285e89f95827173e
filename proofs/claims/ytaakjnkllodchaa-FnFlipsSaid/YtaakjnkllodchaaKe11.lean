/-
  The ball's edges.
-/
import Derived.Test.YtaakjnkllodchaaK49
set_option maxHeartbeats 4000000
namespace Vs
open Go Go.Sort
set_option maxRecDepth 100000
theorem be12_14 : edgeOk 18 ft4 (12, 14) = true := by decide +kernel
theorem be12_16 : edgeOk 18 ft4 (12, 16) = true := by decide +kernel
theorem be13_15 : edgeOk 18 ft4 (13, 15) = true := by decide +kernel
theorem be13_17 : edgeOk 18 ft4 (13, 17) = true := by decide +kernel
end Vs
