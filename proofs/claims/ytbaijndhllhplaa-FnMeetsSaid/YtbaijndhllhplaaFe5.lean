/-
  No triangle is thicker than 1, nearly: the inequality, with errors.
-/
import Derived.Test.YtbaijndhllhplaaFe4
set_option maxHeartbeats 4000000
namespace Vs
open Go Ieee
theorem sq_nn (a : Rat) : 0 ≤ a * a := by
 rcases (Rat.le_total : (0 : Rat) ≤ a ∨ a ≤ 0) with h | h
 ·exact mul_nn h h
 ·have := mul_nn (show 0 ≤ -a by grind) (show 0 ≤ -a by grind)
  grind
theorem sq_le {a b : Rat} (hb : 0 ≤ b) (h : a * a ≤ b * b) : a ≤ b := by
 rcases (Rat.le_total : a ≤ b ∨ b ≤ a) with h1 | h1
 ·exact h1
 ·have ha : 0 ≤ a := Rat.le_trans hb h1
  have h2 := mul_le_r ha h1;have h3 := Rat.mul_le_mul_of_nonneg_left h1 hb
  rcases (Rat.le_total : a - b ≤ 0 ∨ 0 ≤ a - b) with h4 | h4
  ·grind
  ·
   have h5 : (a - b) * (a - b) ≤ 0 := by
    have : (a - b) * (a - b) = a * a - b * b - 2 * (b * (a - b)) := by grind
    have h6 := mul_nn hb h4
    grind
   have h7 := sq_nn (a - b);have h8 : (a - b) * (a - b) = 0 := Rat.le_antisymm h5 h7
   rcases Rat.mul_eq_zero.1 h8 with h9 | h9 <;> grind
end Vs
