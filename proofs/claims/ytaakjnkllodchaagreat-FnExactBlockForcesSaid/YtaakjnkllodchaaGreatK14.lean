/-
  DropPlaces: what the functions compute, and the law.
-/
import Derived.Test.YtaakjnkllodchaaGreatK9
set_option maxHeartbeats 4000000
namespace Vs
open Go
def bo (l : List Bool) : D := .lst (l.map .bool)
theorem idx_bo {l : List Bool} {i : Nat} (h : i < l.length) : gev none .idx [bo l, .int i] = some (.bool l[i]) := by
 have h2 : (i : Int) < ((l.map D.bool).length : Int) := by simp; omega
 simp only [gev, gok, if_true, Prim.ev, bo]
 rw [if_pos ⟨by omega, h2⟩]
 simp [h]
theorem set_bo {l : List Bool} {i : Nat} {v : Bool} (h : i < l.length) : gev none .set [bo l, .int i, .bool v] = some (bo (l.set i v)) := by
 have h2 : (i : Int) < ((l.map D.bool).length : Int) := by simp; omega
 simp only [gev, gok, if_true, Prim.ev, bo]
 rw [if_pos ⟨by omega, h2⟩]
 simp [List.map_set]
theorem rep_bo {n : Nat} (h : n ≤ 1048576) : gev none .rep [.int n, .bool false] = some (bo (List.replicate n false)) := by
 simp only [gev, gok, if_true, Prim.ev, bo]
 rw [if_pos (by omega)]
 simp
attribute [local irreducible] tif tjoin IntKind.wrap feq fadd fmul fsub fdiv fgt i2f sameP wide eqV vl il tl totL szM szP marksV marksT inr triP validP bo

end Vs
