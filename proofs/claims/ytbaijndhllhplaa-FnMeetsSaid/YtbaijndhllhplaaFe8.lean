/-
  A triangle that is split: its two parts are as great as it was, nearly.
-/
import Derived.Test.YtbaijndhllhplaaFe7
import Derived.Test.YtbaijndhllhplaaKq3
import Derived.Test.YtbaijndhllhplaaMf4
set_option maxHeartbeats 4000000
namespace Vs
open Go Ieee
theorem ab_add (x y : Rat) : ab (x + y) ≤ ab x + ab y := by grind [ab]
theorem ab_sub (x y : Rat) : ab (x - y) ≤ ab x + ab y := by grind [ab]
theorem ab_near {e a b : Rat} : near e a b ↔ ab (a - b) ≤ e := by
 unfold near ab
 constructor
 ·rintro ⟨h1, h2⟩
  split <;> grind
 ·intro h
  split at h <;> constructor <;> grind
theorem ab_sq (x : Rat) : ab x * ab x = x * x := by rw [← ab_mul, ab_pos (sq_nn x)]
theorem ab_mul_le {x y m n : Rat} (hx : ab x ≤ m) (hy : ab y ≤ n) : ab (x * y) ≤ m * n := by
 have h0 := ab_nonneg x
 have h1 := ab_nonneg y
 rw [ab_mul]
 exact Rat.le_trans (mul_le_r h1 hx) (Rat.mul_le_mul_of_nonneg_left hy (Rat.le_trans h0 hx))
theorem long_e {n : V3} (hn : vB 1140850688 n) : 0 ≤ fr .f32 (longV n) ∧
  fr .f32 (longV n) * fr .f32 (longV n) ≤ (rx n * rx n + ry n * ry n + rz n * rz n) * (500001 / 500000) + 1 / 100000000000000000000 ∧
  rx n * rx n + ry n * ry n + rz n * rz n ≤ fr .f32 (longV n) * fr .f32 (longV n) * (500001 / 500000) + 1 / 100000000000000000000 ∧ rk .f32 (longV n) ≤ 1635778560 ∧ sgn single (longV n) = false := by
 have xB := dot_B hn
 have xs := dot_sgn hn
 have hX0 := fr_nn xs
 obtain ⟨x1, x2⟩ := dot_e hn
 have ht := et32
 have ht0 := Rat.le_of_lt (et_pos .f32)
 have s1 := sq_nn (rx n); have s2 := sq_nn (ry n); have s3 := sq_nn (rz n)
 have lB := root_mag (fin_of xB (by decide)) xs
 have ls : sgn single (rootP (dotV n n)) = false := by
  rw [(rootP_N (fin_of xB (by decide)) xs).1]
  exact word_sgn okS (Nat.le_of_lt (rootP_N (fin_of xB (by decide)) xs).2)
 rw [long_eq]
 have hS : 0 ≤ rx n * rx n + ry n * ry n + rz n * rz n := by grind
 generalize rx n * rx n + ry n * ry n + rz n * rz n = S at *
 rcases Nat.eq_zero_or_pos (rk .f32 (dotV n n)) with h0 | h0
 ·have e0 := fr_zero h0
  rw [rootP_zero h0 xs, fr_zero (show rk .f32 0 = 0 by decide)]
  rw [e0] at x1;refine ⟨by grind, by grind, by grind, by decide, by decide⟩
 ·obtain ⟨⟨r0, r1, r2⟩, _⟩ := root_E (fin_of xB (by decide)) xs h0
  refine ⟨r0, ?_, ?_, lB, ls⟩
  ·generalize fr .f32 (rootP (dotV n n)) * fr .f32 (rootP (dotV n n)) = Q at *
   grind
  ·generalize fr .f32 (rootP (dotV n n)) * fr .f32 (rootP (dotV n n)) = Q at *
   grind
end Vs
