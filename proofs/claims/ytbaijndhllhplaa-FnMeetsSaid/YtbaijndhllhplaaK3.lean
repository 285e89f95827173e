/-
  Lists of vectors: what laws do with them (length, copy, compare, mark, look at the marks).
-/
import Derived.Test.YtbaijndhllhplaaD
import Derived.Test.YtbaijndhllhplaaE
set_option maxHeartbeats 4000000
namespace Vs
open Go
def vec (v : V3) : D := .agg [.flt v.x, .flt v.y, .flt v.z]
def vl (l : List V3) : D := .lst (l.map vec)
theorem idx_vl {l : List V3} {i : Nat} (h : i < l.length) : gev none .idx [vl l, .int i] = some (vec l[i]) := by
 have h2 : (i : Int) < ((l.map vec).length : Int) := by simp; omega
 simp only [gev, gok, if_true, Prim.ev, vl]
 rw [if_pos ⟨by omega, h2⟩]
 simp [h]
theorem app_vl {l : List V3} {v : V3} (h : l.length < 1048576) : gev none .app [vl l, .lst [vec v]] = some (vl (l ++ [v])) := by
 simp only [gev, gok, if_true, Prim.ev, vl]
 rw [if_pos (by simp; omega)]
 simp
theorem add1 {i : Int} (h0 : 0 ≤ i) (h : i < 4611686018427387904) : gev none (.iar .add .i64) [.int i, .int 1] = some (.int (i + 1)) := by
 have e : gev none (.iar .add .i64) [.int i, .int 1] = some (.int (IntKind.wrap .i64 (i + 1))) := rfl
 rw [e, wrapU h0 h]
theorem add1n {i : Nat} (h : i < 1048576) : gev none (.iar .add .i64) [.int i, .int 1] = some (.int ((i + 1 : Nat) : Int)) := add1 (by omega) (by omega)
attribute [local irreducible] tif tjoin IntKind.wrap feq fadd fmul fsub fdiv fgt i2f wide vl

end Vs
