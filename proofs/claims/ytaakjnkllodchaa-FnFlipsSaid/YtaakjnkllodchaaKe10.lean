/-
  The ball's edges.
-/
import Derived.Test.YtaakjnkllodchaaK49
set_option maxHeartbeats 4000000
namespace Vs
open Go Go.Sort
set_option maxRecDepth 100000
theorem be11_12 : edgeOk 18 ft4 (11, 12) = true := by decide +kernel
theorem be11_13 : edgeOk 18 ft4 (11, 13) = true := by decide +kernel
theorem be11_16 : edgeOk 18 ft4 (11, 16) = true := by decide +kernel
theorem be11_17 : edgeOk 18 ft4 (11, 17) = true := by decide +kernel
end Vs
