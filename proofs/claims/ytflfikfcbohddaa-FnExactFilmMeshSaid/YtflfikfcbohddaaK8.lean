/-
  ShrinkRing: what the functions compute, and the law.
-/
import Derived.Test.YtflfikfcbohddaaK7
namespace Vs
open Go

attribute [local irreducible] tif tjoin IntKind.wrap feq fadd fmul fsub fdiv fgt i2f sameP wide eqV vl il tl totL szM marksV marksT inr triP validP

/-! ### Arguments -/
theorem fitsd_flt {W : World} {k : FloatKind} {cs : List CT} {xs : List D} (h : FitsD W (.b (.flt k) :: cs) xs) : ∃ x ys, xs = .flt x :: ys ∧ FitsD W cs ys := by
  match xs, h with
  | d :: ds, ⟨⟨v, _, _, hd⟩, _, _, h⟩ => exact ⟨_, ds, by rw [hd], h⟩
theorem fitsd_int {W : World} {k : IntKind} {cs : List CT} {xs : List D} (h : FitsD W (.b (.int k) :: cs) xs) : ∃ x ys, xs = .int x :: ys ∧ FitsD W cs ys := by
  match xs, h with
  | d :: ds, ⟨⟨v, _, _, hd⟩, _, _, h⟩ => exact ⟨_, ds, by rw [hd], h⟩
theorem fitsd_nil {W : World} {xs : List D} (h : FitsD W [] xs) : xs = [] := by
  cases xs with
  | nil => rfl
  | cons d ds => cases h

end Vs
