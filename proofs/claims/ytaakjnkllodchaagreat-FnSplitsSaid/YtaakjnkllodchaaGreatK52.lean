/-
  Flips: the law.
-/
import Derived.Test.YtaakjnkllodchaaGreatK51
import Derived.Test.YtaakjnkllodchaaGreatB0
set_option maxHeartbeats 4000000
namespace Vs
open Go Go.Sort
theorem szF : ∀ k, (formV k).length + (formT k).length + totL (formT k) ≤ 1000
 | 0 => by decide
 | 1 => by decide
 | 2 => by decide
 | 3 => by decide
 | _ + 4 => (by decide : fv4.length + ft4.length + totL ft4 ≤ 1000)
theorem p_bne {c d : Bool} : gev none .bne [.bool c, .bool d] = some (.bool (c != d)) := by cases c <;> cases d <;> rfl
theorem p_e0 {x y : Int} : gev none .idx [il [x, y], .int 0] = some (.int x) := rfl
theorem p_e1 {x y : Int} : gev none .idx [il [x, y], .int 1] = some (.int y) := rfl
theorem eql_self {x : Int} : gev none (.icm .eql) [.int x, .int x] = some (.bool true) := by rw [p_eql, beq_self_eq_true]
theorem neq_self {x : Int} : gev none (.icm .neq) [.int x, .int x] = some (.bool false) := by rw [p_neq]; simp
theorem eql_no {x y : Int} (h : x ≠ y) : gev none (.icm .eql) [.int x, .int y] = some (.bool false) := by rw [p_eql, beq_eq_false_iff_ne.2 h]
attribute [local irreducible] tif tjoin IntKind.wrap il tl vl F220 F221 F543 F544 F553 F555 F445 F403 F557 gnP edgL formV formT mvA eulP flipB pairP validP sheetP

end Vs
