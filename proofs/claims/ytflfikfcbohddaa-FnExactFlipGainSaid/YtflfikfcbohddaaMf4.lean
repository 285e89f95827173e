/-
  The floating-point operations of the program, by rungs; how numbers compare; narrowing and widening.
-/
import Derived.Test.YtflfikfcbohddaaMf3
namespace Vs
open Go Ieee

theorem okF (k : FloatKind) : FOk k.format := by cases k; exact okS; exact okD

theorem read_word_notnan {f : Format} (hf : FOk f) {s : Bool} {r : Nat} (h : r ≤ f.infRung) : (f.read (f.word s r)).isNaN = false := by
  have hr := word_rg hf (s := s) h
  unfold rg at hr
  unfold Format.read
  simp only [hr]
  split
  · rfl
  · split
    · rfl
    · rw [if_pos (by omega)]; rfl
theorem canon_word {k : FloatKind} {s : Bool} {r : Nat} (h : r ≤ k.format.infRung) : canon k (k.format.word s r) = k.format.word s r := by
  unfold canon isnan FloatKind.decode
  rw [read_word_notnan (okF k) h]
  rfl

variable {k : FloatKind} {x y : Nat}
/-! ### Magnitudes -/
/-! ### How numbers compare -/
end Vs
