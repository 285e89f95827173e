/-
  The best edge of a mesh: the reference, and the laws ShortestEdge, LongestEdge, BestFlip.
-/
import Derived.Test.YtaakjnkllodchaaGreatK29
set_option maxHeartbeats 4000000
namespace Vs
open Go Go.Sort
def betO (bet : Nat → Nat → Bool) : Option (Nat × Nat) → Nat → Bool
 | none, _ => true
 | some (_, v), x => bet x v
def bstS (num : E2 → Option Nat) (bet : Nat → Nat → Bool) (es : List E2) (st : Option (Nat × Nat)) (i : Nat) : Option (Nat × Nat) :=
 match num (es.getD i (0, 0)) with
 | none => st
 | some x => if (feq .f32 x x && betO bet st x) = true then some (i, x) else st
def bstN (num : E2 → Option Nat) (bet : Nat → Nat → Bool) (es : List E2) : Nat → Option (Nat × Nat)
 | 0 => none
 | i + 1 => bstS num bet es (bstN num bet es i) i
def bstR (es : List E2) : Option (Nat × Nat) → List D
 | none => [il [], .flt 0, .bool false]
 | some (j, v) => [il [(es.getD j (0, 0)).1, (es.getD j (0, 0)).2], .flt v, .bool true]
def bstP (num : E2 → Option Nat) (bet : Nat → Nat → Bool) (es : List E2) : List D := bstR es (bstN num bet es es.length)
def numL (vs : List V3) (e : E2) : Option Nat := some (lenP vs e.1 e.2)
def numF (vs : List V3) (ts : List (List Int)) (e : E2) : Option Nat := if flipB ts e.1 e.2 = true then some (gnP vs ts e.1 e.2) else none
def betL (l : Bool) (x v : Nat) : Bool := if l = true then fgt .f32 x v else flt .f32 x v
theorem edg_get {n : Nat} {ts : List (List Int)} {i : Nat} (h : i < (edgL ts n).length) : ∃ p q : Int, (edgL ts n).getD i (0, 0) = (p, q) ∧ (inr n p && inr n q) = true ∧ p ≠ q ∧ gev none .idx [tl (etl (edgL ts n)), .int (i : Int)] = some (il [p, q]) := by
 have hm : (edgL ts n)[i] ∈ edgN ts n n := List.getElem_mem h
 obtain ⟨a, b, ha, hb, hab, _, he⟩ := (edgN_mem ts n n _).1 hm
 refine ⟨a, b, by rw [getD_lt h, he], ?_, by omega, ?_⟩
 ·rw [Bool.and_eq_true, inr_iff, inr_iff]
  omega
 ·rw [idx_tl (by rw [etl_len]; exact h)]
  simp [etl, he]
theorem edg_len {n : Nat} {ts : List (List Int)} (h : n ≤ 64) : (edgL ts n).length ≤ 4096 :=
 Nat.le_trans (edgN_len ts n n) (Nat.mul_le_mul h h)
attribute [local irreducible] IntKind.wrap il tl vl bo mpD kD inr validP sheetP longP fsub lenP atV flC flD oneI twoI pairP flipQ atL thirdP fgt flt fge feq flipB gnP edgL etl

attribute [local irreducible] tif tjoin fadd fmul fdiv i2f wide totL szM triP bstR bstP

end Vs
