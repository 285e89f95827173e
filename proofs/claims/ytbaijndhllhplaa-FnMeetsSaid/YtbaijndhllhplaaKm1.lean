/-
  Where three films meet: the same way thrice, by evaluation.
-/
import Derived.Test.YtbaijndhllhplaaK17
import Derived.Test.YtbaijndhllhplaaMf7
set_option maxHeartbeats 4000000
namespace Vs
open Go Ieee
def qf (n : Int) : Nat := fdiv .f32 (i2f .f32 n) 1082130432
def qL : List Nat := [3221225472, 3219128320, 3217031168, 3214934016, 3212836864, 3208642560, 3204448256, 3196059648, 0, 1048576000, 1056964608, 1061158912, 1065353216, 1067450368, 1069547520, 1071644672, 1073741824]
def lngF (x y z : Nat) : Nat := (narF (fsqrt .f64 (wideF (faddF .f32 (faddF .f32 (fmulF .f32 x x) (fmulF .f32 y y)) (fmulF .f32 z z))))).getD 0
def finS (x : Nat) : Bool := Nat.ble (Nat.succ (Nat.mod x 9223372036854775808)) 9218868437227405312
def sam4 (r : Nat) : Bool := fltF .f64 (fsubF .f64 (wideF r) 4613937818241073152) 4562254508917369340 && fltF .f64 (fsubF .f64 4613937818241073152 (wideF r)) 4562254508917369340 && finS (fsubF .f64 (wideF r) 4613937818241073152) && finS (fsubF .f64 4613937818241073152 (wideF r))
def sam3 (u v w : Nat) : Bool := sam4 (lngF (faddF .f32 (faddF .f32 u u) u) (faddF .f32 (faddF .f32 v v) v) (faddF .f32 (faddF .f32 w w) w))
def sam2 (g x y z : Nat) : Bool := sam3 (fmulF .f32 x g) (fmulF .f32 y g) (fmulF .f32 z g)
def sam1 (x y z : Nat) : Bool := sam2 (fdivF .f32 1065353216 (lngF x y z)) x y z
def nilF (x y z : Nat) : Bool := Nat.beq (Nat.mod x 2147483648) 0 && (Nat.beq (Nat.mod y 2147483648) 0 && Nat.beq (Nat.mod z 2147483648) 0)
def allZ (x y : Nat) : List Nat → Bool
 | [] => true
 | z :: t => (nilF x y z || sam1 x y z) && allZ x y t
def allY (x : Nat) : List Nat → Bool
 | [] => true
 | y :: t => allZ x y qL && allY x t
theorem all_0 : allY 3221225472 qL = true := by decide +kernel
theorem all_1 : allY 3219128320 qL = true := by decide +kernel
theorem all_2 : allY 3217031168 qL = true := by decide +kernel
theorem all_3 : allY 3214934016 qL = true := by decide +kernel
theorem all_4 : allY 3212836864 qL = true := by decide +kernel
theorem all_5 : allY 3208642560 qL = true := by decide +kernel
theorem all_6 : allY 3204448256 qL = true := by decide +kernel
theorem all_7 : allY 3196059648 qL = true := by decide +kernel
theorem all_8 : allY 0 qL = true := by decide +kernel
theorem all_9 : allY 1048576000 qL = true := by decide +kernel
theorem all_10 : allY 1056964608 qL = true := by decide +kernel
theorem all_11 : allY 1061158912 qL = true := by decide +kernel
theorem all_12 : allY 1065353216 qL = true := by decide +kernel
theorem all_13 : allY 1067450368 qL = true := by decide +kernel
theorem all_14 : allY 1069547520 qL = true := by decide +kernel
theorem all_15 : allY 1071644672 qL = true := by decide +kernel
theorem all_16 : allY 1073741824 qL = true := by decide +kernel
end Vs
