/-
  Widening and narrowing by rungs; halves; the exponential function is narrowed without overflow.
-/
import Derived.Test.YtbaijndhllhplaaMf4
import Derived.Test.YtbaijndhllhplaaD
set_option maxHeartbeats 4000000
namespace Vs
open Go Ieee
def cw : Nat := 2 ^ 925
theorem lpD : FloatKind.f64.format.leastPlace = -1074 := by decide
theorem lpS : FloatKind.f32.format.leastPlace = -149 := by decide
theorem cw_eq : 2 ^ (single.leastPlace - -1074).toNat = cw := by decide +kernel
theorem wide_word {x : Nat} (hx : rk .f32 x < inf .f32) : ∃ r, wide x = double.word (sgn single x) r ∧ r < inf .f64 ∧ (∀ q, q ≤ inf .f64 → Vk .f32 (rk .f32 x) * cw ≤ Vk .f64 q → r ≤ q) ∧ (∀ q, q ≤ inf .f64 → Vk .f64 q ≤ Vk .f32 (rk .f32 x) * cw → q ≤ r) := by
 obtain ⟨m, e, h1, h2, h3, _⟩ := read_fin hx
 have hd : FloatKind.f32.decode x = .number (sgn single x) m e := h1
 obtain ⟨a, b, c⟩ := read_single (show single.read x = .number (sgn single x) m e from h1)
 obtain ⟨r', g1, g2⟩ := nearest_wide (s := sgn single x) a b c
 obtain ⟨r, hr, hB⟩ := nearest_R (f := double) (sgn single x) m e
 have hrr : r' = r := word_inj (g1.symm.trans hr)
 subst hrr
 have hr2 := hB (-1074) (by omega) (by decide)
 rw [lpS] at h3
 have h3' : m * 2 ^ (e - -149).toNat = V single (rk .f32 x) := h3
 have e1 : m * 2 ^ (e - -1074).toNat = V single (rk .f32 x) * cw := by
  rw [← h3', ← cw_eq, Nat.mul_assoc, ← Nat.pow_add]
  congr 2
  have : single.leastPlace = -149 := lpS;omega
 rw [e1] at hr2
 have e2 : (double.leastPlace - -1074).toNat = 0 := by decide
 have hx2 := f2f_wide x
 unfold f2f at hx2
 rw [if_neg (by decide), hd] at hx2
 have hen : FloatKind.f64.encode (.number (sgn single x) m e) = double.word (sgn single x) r' := hr
 simp only [hen] at hx2
 have h5 : (FloatKind.f64.decode (double.word (sgn single x) r')).isInfinity = false := read_word okD.hw g2
 rw [h5] at hx2
 simp only [Bool.false_eq_true, if_false, Option.some.injEq] at hx2
 refine ⟨r', by rw [← hx2]; exact canon_word (k := .f64) (Nat.le_of_lt g2), g2, fun q hq h => ?_, fun q hq h => ?_⟩
 ·rw [hr2]; exact rung_le okD (by decide) hq (by rw [e2, Nat.pow_zero, Nat.mul_one]; exact h)
 ·rw [hr2]; exact le_rung okD (by decide) hq (by rw [e2, Nat.pow_zero, Nat.mul_one]; exact h)
def hv (f : Format) (r : Nat) : Nat := if r < 2 * f.binade then r / 2 else r - f.binade
theorem V_low {f : Format} {r : Nat} (h : r < 2 * f.binade) : V f r = r := by
 unfold V
 split
 ·rfl
 ·have e1 : r / f.binade = 1 := by
   have := binade_pos f;rw [Nat.div_eq_iff (by omega)]
   omega
  have e2 : r % f.binade = r - f.binade := by have := Nat.div_add_mod r f.binade;rw [e1] at this;omega
  rw [e1, e2];simp;omega
theorem V_hv (f : Format) (r : Nat) : V f (hv f r) = V f r / 2 := by
 have hbp := binade_pos f
 unfold hv
 split
 ·rename_i h
  rw [V_low h, V_low (by omega)]
 ·rename_i h
  have hdm := Nat.div_add_mod r f.binade;have hm := Nat.mod_lt r hbp;have hq : 2 ≤ r / f.binade := (Nat.le_div_iff_mul_le hbp).2 (by omega)
  unfold V;rw [if_neg (by omega), if_neg (by omega)]
  generalize r / f.binade = q at *;generalize r % f.binade = m at *;have e0 : r - f.binade = f.binade * (q - 1) + m := by
   have : f.binade * q = f.binade * (q - 1) + f.binade := by
    rw [← Nat.mul_succ]
    congr 1
    omega
   omega
  have e1 : (r - f.binade) / f.binade = q - 1 := by rw [e0, Nat.mul_add_div hbp, Nat.div_eq_of_lt hm, Nat.add_zero]
  have e2 : (r - f.binade) % f.binade = m := by rw [e0, Nat.mul_add_mod, Nat.mod_eq_of_lt hm]
  rw [e1, e2];have e3 : q - 1 = (q - 1 - 1) + 1 := by omega
  conv => rhs; rw [e3, Nat.pow_succ, ← Nat.mul_assoc]
  rw [Nat.mul_div_cancel _ (by decide)]
theorem V_dbl (f : Format) (r : Nat) : ∃ q, V f q = 2 * V f r := by
 have hbp := binade_pos f
 by_cases h : r < f.binade
 ·exact ⟨2 * r, by rw [V_low (by omega), V_low (by omega)]⟩
 ·refine ⟨r + f.binade, ?_⟩
  have h2 := V_hv f (r + f.binade);have e : hv f (r + f.binade) = r := by unfold hv; rw [if_neg (by omega)]; omega
  rw [e] at h2;have hq : 1 ≤ r / f.binade := (Nat.le_div_iff_mul_le hbp).2 (by omega)
  have e2 : V f (r + f.binade) % 2 = 0 := by
   unfold V;rw [if_neg (by omega), Nat.add_div_right _ hbp]
   have e3 : r / f.binade + 1 - 1 = (r / f.binade - 1) + 1 := by omega
   rw [e3, Nat.pow_succ, ← Nat.mul_assoc, Nat.mul_mod_left]
  omega
abbrev K : FloatKind := .f32
end Vs
