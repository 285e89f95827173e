/-
  The ball's edges.
-/
import Derived.Test.YtaakjnkllodchaaK49
set_option maxHeartbeats 4000000
namespace Vs
open Go Go.Sort
set_option maxRecDepth 100000
theorem be3_7 : edgeOk 18 ft4 (3, 7) = true := by decide +kernel
theorem be3_11 : edgeOk 18 ft4 (3, 11) = true := by decide +kernel
theorem be3_16 : edgeOk 18 ft4 (3, 16) = true := by decide +kernel
theorem be3_17 : edgeOk 18 ft4 (3, 17) = true := by decide +kernel
end Vs
