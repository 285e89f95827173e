/-
  Pairs of places, flips of edges, what is gained.
-/
import Derived.Test.YtflfikfcbohddaaK27
namespace Vs
open Go Go.Sort

def atV (vs : List V3) (p : Int) : V3 := vs.getD p.toNat ⟨0, 0, 0⟩
def lenP (vs : List V3) (p q : Int) : Nat := longP (fsub .f32 (atV vs p).x (atV vs q).x) (fsub .f32 (atV vs p).y (atV vs q).y) (fsub .f32 (atV vs p).z (atV vs q).z)
theorem inr_iff {n p : Int} : inr n p = true ↔ 0 ≤ p ∧ p < n := by
  unfold inr
  simp only [Bool.and_eq_true, decide_eq_true_eq]
  omega
attribute [local irreducible] IntKind.wrap il tl vl bo mpD kD inr validP longP fsub

end Vs
