/-
  The ball's edges.
-/
import Derived.Test.YtaakjnkllodchaaK49
set_option maxHeartbeats 4000000
namespace Vs
open Go Go.Sort
set_option maxRecDepth 100000
theorem be2_6 : edgeOk 18 ft4 (2, 6) = true := by decide +kernel
theorem be2_10 : edgeOk 18 ft4 (2, 10) = true := by decide +kernel
theorem be2_14 : edgeOk 18 ft4 (2, 14) = true := by decide +kernel
theorem be2_15 : edgeOk 18 ft4 (2, 15) = true := by decide +kernel
end Vs
