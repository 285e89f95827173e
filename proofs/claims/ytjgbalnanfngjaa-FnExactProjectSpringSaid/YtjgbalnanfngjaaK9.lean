/-
  How thick triangles are: ThicknessOf, ThinTriangles.
-/
import Derived.Test.YtjgbalnanfngjaaK8
namespace Vs
open Go

def longV (v : V3) : Nat := longP v.x v.y v.z
/-- A place by its number. -/
def plc (vs : List V3) (p : Int) : V3 := vs.getD p.toNat ⟨0, 0, 0⟩
theorem idx_plc {vs : List V3} {p : Int} (h : inr vs.length p = true) : gev none .idx [vl vs, .int p] = some (vec (plc vs p)) := by
  unfold inr at h
  simp only [Bool.and_eq_true, decide_eq_true_eq] at h
  have e : p = (p.toNat : Int) := by omega
  have hl : p.toNat < vs.length := by omega
  have := idx_vl hl
  rw [← e] at this
  rw [this]
  unfold plc
  rw [getD_lt hl]
def nds (v : V3) : List D := [.flt v.x, .flt v.y, .flt v.z]
attribute [local irreducible] tif tjoin IntKind.wrap feq fadd fmul fsub fdiv fgt i2f sameP wide eqV vl il tl totL szM szP marksV marksT inr triP validP innerP longP rootP flt

end Vs
