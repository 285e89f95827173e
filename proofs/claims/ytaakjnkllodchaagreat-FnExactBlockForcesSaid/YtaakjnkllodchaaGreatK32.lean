/-
  The best edge of a mesh: the reference, and the laws ShortestEdge, LongestEdge, BestFlip.
-/
import Derived.Test.YtaakjnkllodchaaGreatK29
set_option maxHeartbeats 4000000
namespace Vs
open Go Go.Sort
theorem edg_get {n : Nat} {ts : List (List Int)} {i : Nat} (h : i < (edgL ts n).length) : ∃ p q : Int, (edgL ts n).getD i (0, 0) = (p, q) ∧ (inr n p && inr n q) = true ∧ p ≠ q ∧ gev none .idx [tl (etl (edgL ts n)), .int (i : Int)] = some (il [p, q]) := by
 have hm : (edgL ts n)[i] ∈ edgN ts n n := List.getElem_mem h
 obtain ⟨a, b, ha, hb, hab, _, he⟩ := (edgN_mem ts n n _).1 hm
 refine ⟨a, b, by rw [getD_lt h, he], ?_, by omega, ?_⟩
 ·rw [Bool.and_eq_true, inr_iff, inr_iff]
  omega
 ·rw [idx_tl (by rw [etl_len]; exact h)]
  simp [etl, he]
theorem edg_len {n : Nat} {ts : List (List Int)} (h : n ≤ 64) : (edgL ts n).length ≤ 4096 :=
 Nat.le_trans (edgN_len ts n n) (Nat.mul_le_mul h h)
theorem ok_of {n : Nat} {ts : List (List Int)} {p q : Int} (hv : validP n ts = true) (h : (inr n p && inr n q) = true) (hpq : p ≠ q) : okP n ts p q = true := by
 unfold okP
 rw [hv, h]
 simp [hpq]
attribute [local irreducible] IntKind.wrap il tl vl bo mpD kD inr validP longP fsub atL thirdP fgt flt fge feq edgL etl

attribute [local irreducible] tif tjoin fadd fmul fdiv i2f sameP wide eqV totL szM szP marksV marksT triP

end Vs
