/-
  Flips of the forms, all.
-/
import Derived.Test.YtaakjnkllodchaaKe0
import Derived.Test.YtaakjnkllodchaaKe1
import Derived.Test.YtaakjnkllodchaaKe2
import Derived.Test.YtaakjnkllodchaaKe3
import Derived.Test.YtaakjnkllodchaaKe4
import Derived.Test.YtaakjnkllodchaaKe5
import Derived.Test.YtaakjnkllodchaaKe6
import Derived.Test.YtaakjnkllodchaaKe7
import Derived.Test.YtaakjnkllodchaaKe8
import Derived.Test.YtaakjnkllodchaaKe9
import Derived.Test.YtaakjnkllodchaaKe10
import Derived.Test.YtaakjnkllodchaaKe11
set_option maxHeartbeats 4000000
namespace Vs
open Go Go.Sort
set_option maxRecDepth 100000
theorem ball_edges : edgL ft4 18 = [(0, 6), (0, 7), (0, 8), (0, 9), (1, 10), (1, 11), (1, 12), (1, 13), (2, 6), (2, 10), (2, 14), (2, 15), (3, 7), (3, 11), (3, 16), (3, 17), (4, 8), (4, 12), (4, 14), (4, 16), (5, 9), (5, 13), (5, 15), (5, 17), (6, 8), (6, 9), (6, 14), (6, 15), (7, 8), (7, 9), (7, 16), (7, 17), (8, 14), (8, 16), (9, 15), (9, 17), (10, 12), (10, 13), (10, 14), (10, 15), (11, 12), (11, 13), (11, 16), (11, 17), (12, 14), (12, 16), (13, 15), (13, 17)] := by decide +kernel
theorem edges4 : (edgL ft4 18).all (edgeOk 18 ft4) = true := by
 rw [ball_edges]
 simp only [List.all_cons, List.all_nil, be0_6, be0_7, be0_8, be0_9, be1_10, be1_11, be1_12, be1_13, be2_6, be2_10, be2_14, be2_15, be3_7, be3_11, be3_16, be3_17, be4_8, be4_12, be4_14, be4_16, be5_9, be5_13, be5_15, be5_17, be6_8, be6_9, be6_14, be6_15, be7_8, be7_9, be7_16, be7_17, be8_14, be8_16, be9_15, be9_17, be10_12, be10_13, be10_14, be10_15, be11_12, be11_13, be11_16, be11_17, be12_14, be12_16, be13_15, be13_17, Bool.and_self]
theorem form_edges : ∀ k, (edgL (formT k) (formV k).length).all (edgeOk (formV k).length (formT k)) = true
 | 0 => edges0
 | 1 => edges1
 | 2 => edges2
 | 3 => edges3
 | _ + 4 => edges4
end Vs
