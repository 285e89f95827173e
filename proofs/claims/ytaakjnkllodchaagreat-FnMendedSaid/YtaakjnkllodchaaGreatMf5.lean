/-
  Widening and narrowing by rungs; halves; the exponential function is narrowed without overflow.
-/
import Derived.Test.YtaakjnkllodchaaGreatMf4
import Derived.Test.YtaakjnkllodchaaGreatD
set_option maxHeartbeats 4000000
namespace Vs
open Go Ieee
def cw : Nat := 2 ^ 925
theorem lpS : FloatKind.f32.format.leastPlace = -149 := by decide
theorem cw_eq : 2 ^ (single.leastPlace - -1074).toNat = cw := by decide +kernel
theorem wide_word {x : Nat} (hx : rk .f32 x < inf .f32) : ∃ r, wide x = double.word (sgn single x) r ∧ r < inf .f64 ∧ (∀ q, q ≤ inf .f64 → Vk .f32 (rk .f32 x) * cw ≤ Vk .f64 q → r ≤ q) ∧ (∀ q, q ≤ inf .f64 → Vk .f64 q ≤ Vk .f32 (rk .f32 x) * cw → q ≤ r) := by
 obtain ⟨m, e, h1, h2, h3, _⟩ := read_fin hx
 have hd : FloatKind.f32.decode x = .number (sgn single x) m e := h1
 obtain ⟨a, b, c⟩ := read_single (show single.read x = .number (sgn single x) m e from h1)
 obtain ⟨r', g1, g2⟩ := nearest_wide (s := sgn single x) a b c
 obtain ⟨r, hr, hB⟩ := nearest_R (f := double) (sgn single x) m e
 have hrr : r' = r := word_inj (g1.symm.trans hr)
 subst hrr
 have hr2 := hB (-1074) (by omega) (by decide)
 rw [lpS] at h3
 have h3' : m * 2 ^ (e - -149).toNat = V single (rk .f32 x) := h3
 have e1 : m * 2 ^ (e - -1074).toNat = V single (rk .f32 x) * cw := by
  rw [← h3', ← cw_eq, Nat.mul_assoc, ← Nat.pow_add]
  congr 2
  have : single.leastPlace = -149 := lpS;omega
 rw [e1] at hr2
 have e2 : (double.leastPlace - -1074).toNat = 0 := by decide
 have hx2 := f2f_wide x
 unfold f2f at hx2
 rw [if_neg (by decide), hd] at hx2
 have hen : FloatKind.f64.encode (.number (sgn single x) m e) = double.word (sgn single x) r' := hr
 simp only [hen] at hx2
 have h5 : (FloatKind.f64.decode (double.word (sgn single x) r')).isInfinity = false := read_word okD.hw g2
 rw [h5] at hx2
 simp only [Bool.false_eq_true, if_false, Option.some.injEq] at hx2
 refine ⟨r', by rw [← hx2]; exact canon_word (k := .f64) (Nat.le_of_lt g2), g2, fun q hq h => ?_, fun q hq h => ?_⟩
 ·rw [hr2]; exact rung_le okD (by decide) hq (by rw [e2, Nat.pow_zero, Nat.mul_one]; exact h)
 ·rw [hr2]; exact le_rung okD (by decide) hq (by rw [e2, Nat.pow_zero, Nat.mul_one]; exact h)
def hv (f : Format) (r : Nat) : Nat := if r < 2 * f.binade then r / 2 else r - f.binade
abbrev K : FloatKind := .f32
theorem infS : single.infRung = 2139095040 := by decide
end Vs
