/-
  Quotients of floats with their errors; the length of a normal; a triangle that is split.
-/
import Derived.Test.YtbaijndhllhplaaFe6
set_option maxHeartbeats 4000000
namespace Vs
open Go Ieee
variable {k : FloatKind} {x y : Nat}
theorem fr_sign (z : Nat) : (sgn k.format z = false ∧ fr k z = ab (fr k z)) ∨ (sgn k.format z = true ∧ fr k z = -ab (fr k z)) := by
 have hz := ab_fr (k := k) z
 have hD := dn_pos k
 rcases fr_cases (k := k) z with ⟨c1, c2⟩ | ⟨c1, c2⟩
 ·exact .inl ⟨c1, by rw [← hz] at c2; exact mul_cancel hD c2⟩
 ·exact .inr ⟨c1, by rw [← hz, ← Rat.neg_mul] at c2; exact mul_cancel hD c2⟩
theorem div_cut {z Q Y D B e t X : Rat} (hD : 0 < D) (hB : 0 < B) (hY : 0 < Y) (he : e * B = 1) (ht : t * D = 1) (hQ : Q * Y = X) (e1 : (z * D * (Y * D) - X * D * D) * B ≤ X * D * D + Y * D * B) (e2 : (X * D * D - z * D * (Y * D)) * B ≤ X * D * D + Y * D * B) : near (e * Q + t) z Q := by
 subst hQ
 have hp := Rat.mul_pos (Rat.mul_pos (Rat.mul_pos hY hD) hD) hB
 have h1 : e * Q * (Y * D * D * B) = Q * Y * D * D := by
  have : e * Q * (Y * D * D * B) = Q * Y * D * D * (e * B) := by grind
  rw [this, he, Rat.mul_one]
 have h2 : t * (Y * D * D * B) = Y * D * B := by
  have : t * (Y * D * D * B) = Y * D * B * (t * D) := by grind
  rw [this, ht, Rat.mul_one]
 constructor
 ·refine le_of_mul hp ?_
  rw [Rat.add_mul, h1, h2]
  grind
 ·refine le_of_mul hp ?_
  rw [Rat.add_mul, h1, h2]
  grind
theorem div_E (hx : rk k x < inf k) (hy : rk k y < inf k) (h0 : rk k y ≠ 0) (hz : rk k (fdiv k x y) < inf k) {Q : Rat} (hQ : Q * fr k y = fr k x) : near (ep k * ab Q + et k) (fr k (fdiv k x y)) Q := by
 obtain ⟨r, h1, h2⟩ := fdiv_R hx hy h0
 rw [h1, rk_word h2.1] at hz
 have hVy : 0 < Vk k (rk k y) := V_pos (Nat.pos_of_ne_zero h0)
 obtain ⟨e1, e2⟩ := err_R hVy h2 hz
 have hw := fr_word (u := (sgn k.format x ^^ sgn k.format y)) h2.1
 rw [← h1] at hw
 have hD := dn_pos k
 have hB := bi_pos k
 have a1 := ab_fr (k := k) x
 have a2 := ab_fr (k := k) y
 rw [Rat.natCast_mul, ← a1, ← a2] at e1 e2
 have hep : ep k * (k.format.binade : Rat) = 1 := by have := ep_bi k 1; rwa [Rat.mul_one] at this
 have het : et k * (dn k : Rat) = 1 := by
  unfold et;generalize (dn k : Rat) = D at *
  grind
 have hYp : 0 < ab (fr k y) := by
  have : (0 : Rat) < ((Vk k (rk k y) : Nat) : Rat) := by exact_mod_cast hVy
  rw [← a2] at this;have hn := ab_nonneg (fr k y)
  by_cases h : ab (fr k y) = 0
  ·rw [h, Rat.zero_mul] at this
   exact absurd this Rat.lt_irrefl
  ·grind
 have hQa : ab Q * ab (fr k y) = ab (fr k x) := by rw [← ab_mul, hQ]
 have hs : ∃ s : Rat, (s = 1 ∨ s = -1) ∧ fr k (fdiv k x y) * (dn k : Rat) = s * ((Vk k r : Nat) : Rat) ∧ Q = s * ab Q := by
  rcases fr_sign (k := k) x with ⟨sx, vx⟩ | ⟨sx, vx⟩ <;> rcases fr_sign (k := k) y with ⟨sy, vy⟩ | ⟨sy, vy⟩ <;> rw [sx, sy] at hw
  ·refine ⟨1, .inl rfl, by rw [hw]; simp, ?_⟩
   refine mul_cancel hYp ?_;rw [← vy, hQ, Rat.one_mul];rw [vx, ← hQa, ← vy]
  ·refine ⟨-1, .inr rfl, by rw [hw]; simp; grind, ?_⟩
   refine mul_cancel hYp ?_;have : Q * ab (fr k y) = -(fr k x) := by rw [← hQ]; grind
   rw [this, vx, ← hQa]
   grind
  ·refine ⟨-1, .inr rfl, by rw [hw]; simp; grind, ?_⟩
   refine mul_cancel hYp ?_;have : Q * ab (fr k y) = fr k x := by rw [← vy]; exact hQ
   rw [this, vx, ← hQa]
   grind
  ·refine ⟨1, .inl rfl, by rw [hw]; simp, ?_⟩
   refine mul_cancel hYp ?_;have : Q * ab (fr k y) = -(fr k x) := by rw [← hQ]; grind
   rw [this, vx, ← hQa]
   grind
 obtain ⟨s, s1, s2, s3⟩ := hs
 have n1 := ab_nonneg Q
 have hss : s * s = 1 := by rcases s1 with h | h <;> rw [h] <;> grind
 have hv : ((Vk k r : Nat) : Rat) = s * fr k (fdiv k x y) * (dn k : Rat) := by
  have : s * (fr k (fdiv k x y) * (dn k : Rat)) = s * (s * ((Vk k r : Nat) : Rat)) := by rw [s2]
  grind
 rw [hv] at e1 e2
 have key : near (ep k * ab Q + et k) (s * fr k (fdiv k x y)) (ab Q) := div_cut hD hB hYp hep het hQa e1 e2
 rw [show (near (ep k * ab Q + et k) (fr k (fdiv k x y)) Q) = near (ep k * ab Q + et k) (fr k (fdiv k x y)) (s * ab Q) by rw [← s3]]
 rcases s1 with rfl | rfl
 ·rw [Rat.one_mul] at key ⊢
  exact key
 ·have := near_neg key
  unfold near at *
  grind
end Vs
