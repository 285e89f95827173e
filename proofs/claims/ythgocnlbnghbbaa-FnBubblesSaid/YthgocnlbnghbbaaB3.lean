/-
  The sizes of bubbles, one by one.
-/
import Derived.Test.YthgocnlbnghbbaaB1
namespace Vs
open Go

set_option maxRecDepth 100000 in
theorem o3_0 : ok3 0 = true := by decide +kernel
set_option maxRecDepth 100000 in
theorem o3_1 : ok3 1 = true := by decide +kernel
set_option maxRecDepth 100000 in
theorem o3_2 : ok3 2 = true := by decide +kernel
set_option maxRecDepth 100000 in
theorem o3_3 : ok3 3 = true := by decide +kernel
set_option maxRecDepth 100000 in
theorem o3_4 : ok3 4 = true := by decide +kernel
set_option maxRecDepth 100000 in
theorem o3_5 : ok3 5 = true := by decide +kernel
set_option maxRecDepth 100000 in
theorem o3_6 : ok3 6 = true := by decide +kernel
set_option maxRecDepth 100000 in
theorem o3_7 : ok3 7 = true := by decide +kernel
theorem ok3_all : ∀ i, i < 8 → ok3 i = true
  | 0, _ => o3_0
  | 1, _ => o3_1
  | 2, _ => o3_2
  | 3, _ => o3_3
  | 4, _ => o3_4
  | 5, _ => o3_5
  | 6, _ => o3_6
  | 7, _ => o3_7
  | n + 8, h => by omega
set_option maxRecDepth 100000 in
theorem o2_0_0 : (List.range 8).all (ok2 0 0) = true := by decide +kernel
set_option maxRecDepth 100000 in
theorem o2_0_1 : (List.range 8).all (ok2 0 1) = true := by decide +kernel
set_option maxRecDepth 100000 in
theorem o2_0_2 : (List.range 8).all (ok2 0 2) = true := by decide +kernel
set_option maxRecDepth 100000 in
theorem o2_0_3 : (List.range 8).all (ok2 0 3) = true := by decide +kernel
set_option maxRecDepth 100000 in
theorem o2_0_4 : (List.range 8).all (ok2 0 4) = true := by decide +kernel
set_option maxRecDepth 100000 in
theorem o2_0_5 : (List.range 8).all (ok2 0 5) = true := by decide +kernel
set_option maxRecDepth 100000 in
theorem o2_0_6 : (List.range 8).all (ok2 0 6) = true := by decide +kernel
set_option maxRecDepth 100000 in
theorem o2_0_7 : (List.range 8).all (ok2 0 7) = true := by decide +kernel
set_option maxRecDepth 100000 in
theorem o2_1_0 : (List.range 8).all (ok2 1 0) = true := by decide +kernel
set_option maxRecDepth 100000 in
theorem o2_1_1 : (List.range 8).all (ok2 1 1) = true := by decide +kernel
set_option maxRecDepth 100000 in
theorem o2_1_2 : (List.range 8).all (ok2 1 2) = true := by decide +kernel
set_option maxRecDepth 100000 in
theorem o2_1_3 : (List.range 8).all (ok2 1 3) = true := by decide +kernel
set_option maxRecDepth 100000 in
theorem o2_1_4 : (List.range 8).all (ok2 1 4) = true := by decide +kernel
set_option maxRecDepth 100000 in
theorem o2_1_5 : (List.range 8).all (ok2 1 5) = true := by decide +kernel
set_option maxRecDepth 100000 in
theorem o2_1_6 : (List.range 8).all (ok2 1 6) = true := by decide +kernel
set_option maxRecDepth 100000 in
theorem o2_1_7 : (List.range 8).all (ok2 1 7) = true := by decide +kernel
set_option maxRecDepth 100000 in
theorem o2_2_0 : (List.range 8).all (ok2 2 0) = true := by decide +kernel
set_option maxRecDepth 100000 in
theorem o2_2_1 : (List.range 8).all (ok2 2 1) = true := by decide +kernel
set_option maxRecDepth 100000 in
theorem o2_2_2 : (List.range 8).all (ok2 2 2) = true := by decide +kernel
set_option maxRecDepth 100000 in
theorem o2_2_3 : (List.range 8).all (ok2 2 3) = true := by decide +kernel
set_option maxRecDepth 100000 in
theorem o2_2_4 : (List.range 8).all (ok2 2 4) = true := by decide +kernel
set_option maxRecDepth 100000 in
theorem o2_2_5 : (List.range 8).all (ok2 2 5) = true := by decide +kernel
set_option maxRecDepth 100000 in
theorem o2_2_6 : (List.range 8).all (ok2 2 6) = true := by decide +kernel
set_option maxRecDepth 100000 in
theorem o2_2_7 : (List.range 8).all (ok2 2 7) = true := by decide +kernel
set_option maxRecDepth 100000 in
theorem o2_3_0 : (List.range 8).all (ok2 3 0) = true := by decide +kernel
set_option maxRecDepth 100000 in
theorem o2_3_1 : (List.range 8).all (ok2 3 1) = true := by decide +kernel
set_option maxRecDepth 100000 in
theorem o2_3_2 : (List.range 8).all (ok2 3 2) = true := by decide +kernel
set_option maxRecDepth 100000 in
theorem o2_3_3 : (List.range 8).all (ok2 3 3) = true := by decide +kernel
set_option maxRecDepth 100000 in
theorem o2_3_4 : (List.range 8).all (ok2 3 4) = true := by decide +kernel
set_option maxRecDepth 100000 in
theorem o2_3_5 : (List.range 8).all (ok2 3 5) = true := by decide +kernel
set_option maxRecDepth 100000 in
theorem o2_3_6 : (List.range 8).all (ok2 3 6) = true := by decide +kernel
set_option maxRecDepth 100000 in
theorem o2_3_7 : (List.range 8).all (ok2 3 7) = true := by decide +kernel
set_option maxRecDepth 100000 in
theorem o2_4_0 : (List.range 8).all (ok2 4 0) = true := by decide +kernel
set_option maxRecDepth 100000 in
theorem o2_4_1 : (List.range 8).all (ok2 4 1) = true := by decide +kernel
set_option maxRecDepth 100000 in
theorem o2_4_2 : (List.range 8).all (ok2 4 2) = true := by decide +kernel
set_option maxRecDepth 100000 in
theorem o2_4_3 : (List.range 8).all (ok2 4 3) = true := by decide +kernel
set_option maxRecDepth 100000 in
theorem o2_4_4 : (List.range 8).all (ok2 4 4) = true := by decide +kernel
set_option maxRecDepth 100000 in
theorem o2_4_5 : (List.range 8).all (ok2 4 5) = true := by decide +kernel
set_option maxRecDepth 100000 in
theorem o2_4_6 : (List.range 8).all (ok2 4 6) = true := by decide +kernel
set_option maxRecDepth 100000 in
theorem o2_4_7 : (List.range 8).all (ok2 4 7) = true := by decide +kernel
set_option maxRecDepth 100000 in
theorem o2_5_0 : (List.range 8).all (ok2 5 0) = true := by decide +kernel
set_option maxRecDepth 100000 in
theorem o2_5_1 : (List.range 8).all (ok2 5 1) = true := by decide +kernel
set_option maxRecDepth 100000 in
theorem o2_5_2 : (List.range 8).all (ok2 5 2) = true := by decide +kernel
set_option maxRecDepth 100000 in
theorem o2_5_3 : (List.range 8).all (ok2 5 3) = true := by decide +kernel
set_option maxRecDepth 100000 in
theorem o2_5_4 : (List.range 8).all (ok2 5 4) = true := by decide +kernel
set_option maxRecDepth 100000 in
theorem o2_5_5 : (List.range 8).all (ok2 5 5) = true := by decide +kernel
set_option maxRecDepth 100000 in
theorem o2_5_6 : (List.range 8).all (ok2 5 6) = true := by decide +kernel
set_option maxRecDepth 100000 in
theorem o2_5_7 : (List.range 8).all (ok2 5 7) = true := by decide +kernel
set_option maxRecDepth 100000 in
theorem o2_6_0 : (List.range 8).all (ok2 6 0) = true := by decide +kernel
set_option maxRecDepth 100000 in
theorem o2_6_1 : (List.range 8).all (ok2 6 1) = true := by decide +kernel
set_option maxRecDepth 100000 in
theorem o2_6_2 : (List.range 8).all (ok2 6 2) = true := by decide +kernel
set_option maxRecDepth 100000 in
theorem o2_6_3 : (List.range 8).all (ok2 6 3) = true := by decide +kernel
set_option maxRecDepth 100000 in
theorem o2_6_4 : (List.range 8).all (ok2 6 4) = true := by decide +kernel
set_option maxRecDepth 100000 in
theorem o2_6_5 : (List.range 8).all (ok2 6 5) = true := by decide +kernel
set_option maxRecDepth 100000 in
theorem o2_6_6 : (List.range 8).all (ok2 6 6) = true := by decide +kernel
set_option maxRecDepth 100000 in
theorem o2_6_7 : (List.range 8).all (ok2 6 7) = true := by decide +kernel
set_option maxRecDepth 100000 in
theorem o2_7_0 : (List.range 8).all (ok2 7 0) = true := by decide +kernel
set_option maxRecDepth 100000 in
theorem o2_7_1 : (List.range 8).all (ok2 7 1) = true := by decide +kernel
set_option maxRecDepth 100000 in
theorem o2_7_2 : (List.range 8).all (ok2 7 2) = true := by decide +kernel
set_option maxRecDepth 100000 in
theorem o2_7_3 : (List.range 8).all (ok2 7 3) = true := by decide +kernel
set_option maxRecDepth 100000 in
theorem o2_7_4 : (List.range 8).all (ok2 7 4) = true := by decide +kernel
set_option maxRecDepth 100000 in
theorem o2_7_5 : (List.range 8).all (ok2 7 5) = true := by decide +kernel
set_option maxRecDepth 100000 in
theorem o2_7_6 : (List.range 8).all (ok2 7 6) = true := by decide +kernel
set_option maxRecDepth 100000 in
theorem o2_7_7 : (List.range 8).all (ok2 7 7) = true := by decide +kernel
theorem ok2_all : ∀ a b, a < 8 → b < 8 → (List.range 8).all (ok2 a b) = true
  | 0, 0, _, _ => o2_0_0
  | 0, 1, _, _ => o2_0_1
  | 0, 2, _, _ => o2_0_2
  | 0, 3, _, _ => o2_0_3
  | 0, 4, _, _ => o2_0_4
  | 0, 5, _, _ => o2_0_5
  | 0, 6, _, _ => o2_0_6
  | 0, 7, _, _ => o2_0_7
  | 1, 0, _, _ => o2_1_0
  | 1, 1, _, _ => o2_1_1
  | 1, 2, _, _ => o2_1_2
  | 1, 3, _, _ => o2_1_3
  | 1, 4, _, _ => o2_1_4
  | 1, 5, _, _ => o2_1_5
  | 1, 6, _, _ => o2_1_6
  | 1, 7, _, _ => o2_1_7
  | 2, 0, _, _ => o2_2_0
  | 2, 1, _, _ => o2_2_1
  | 2, 2, _, _ => o2_2_2
  | 2, 3, _, _ => o2_2_3
  | 2, 4, _, _ => o2_2_4
  | 2, 5, _, _ => o2_2_5
  | 2, 6, _, _ => o2_2_6
  | 2, 7, _, _ => o2_2_7
  | 3, 0, _, _ => o2_3_0
  | 3, 1, _, _ => o2_3_1
  | 3, 2, _, _ => o2_3_2
  | 3, 3, _, _ => o2_3_3
  | 3, 4, _, _ => o2_3_4
  | 3, 5, _, _ => o2_3_5
  | 3, 6, _, _ => o2_3_6
  | 3, 7, _, _ => o2_3_7
  | 4, 0, _, _ => o2_4_0
  | 4, 1, _, _ => o2_4_1
  | 4, 2, _, _ => o2_4_2
  | 4, 3, _, _ => o2_4_3
  | 4, 4, _, _ => o2_4_4
  | 4, 5, _, _ => o2_4_5
  | 4, 6, _, _ => o2_4_6
  | 4, 7, _, _ => o2_4_7
  | 5, 0, _, _ => o2_5_0
  | 5, 1, _, _ => o2_5_1
  | 5, 2, _, _ => o2_5_2
  | 5, 3, _, _ => o2_5_3
  | 5, 4, _, _ => o2_5_4
  | 5, 5, _, _ => o2_5_5
  | 5, 6, _, _ => o2_5_6
  | 5, 7, _, _ => o2_5_7
  | 6, 0, _, _ => o2_6_0
  | 6, 1, _, _ => o2_6_1
  | 6, 2, _, _ => o2_6_2
  | 6, 3, _, _ => o2_6_3
  | 6, 4, _, _ => o2_6_4
  | 6, 5, _, _ => o2_6_5
  | 6, 6, _, _ => o2_6_6
  | 6, 7, _, _ => o2_6_7
  | 7, 0, _, _ => o2_7_0
  | 7, 1, _, _ => o2_7_1
  | 7, 2, _, _ => o2_7_2
  | 7, 3, _, _ => o2_7_3
  | 7, 4, _, _ => o2_7_4
  | 7, 5, _, _ => o2_7_5
  | 7, 6, _, _ => o2_7_6
  | 7, 7, _, _ => o2_7_7
  | n + 8, _, h, _ => by omega
  | _, n + 8, _, h => by omega

end Vs
