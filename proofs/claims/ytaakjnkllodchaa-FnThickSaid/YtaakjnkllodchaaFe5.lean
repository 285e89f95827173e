/-
  No triangle is thicker than 1, nearly: the inequality, with errors.
-/
import Derived.Test.YtaakjnkllodchaaFe4
set_option maxHeartbeats 4000000
namespace Vs
open Go Ieee
theorem sq_nn (a : Rat) : 0 ≤ a * a := by
 rcases (Rat.le_total : (0 : Rat) ≤ a ∨ a ≤ 0) with h | h
 ·exact mul_nn h h
 ·have := mul_nn (show 0 ≤ -a by grind) (show 0 ≤ -a by grind)
  grind
theorem sq_le {a b : Rat} (hb : 0 ≤ b) (h : a * a ≤ b * b) : a ≤ b := by
 rcases (Rat.le_total : a ≤ b ∨ b ≤ a) with h1 | h1
 ·exact h1
 ·have ha : 0 ≤ a := Rat.le_trans hb h1
  have h2 := mul_le_r ha h1;have h3 := Rat.mul_le_mul_of_nonneg_left h1 hb
  rcases (Rat.le_total : a - b ≤ 0 ∨ 0 ≤ a - b) with h4 | h4
  ·grind
  ·
   have h5 : (a - b) * (a - b) ≤ 0 := by
    have : (a - b) * (a - b) = a * a - b * b - 2 * (b * (a - b)) := by grind
    have h6 := mul_nn hb h4
    grind
   have h7 := sq_nn (a - b);have h8 : (a - b) * (a - b) = 0 := Rat.le_antisymm h5 h7
   rcases Rat.mul_eq_zero.1 h8 with h9 | h9 <;> grind
theorem weitz (p1 p2 p3 q1 q2 q3 : Rat) :
  12 * ((p2 * q3 - p3 * q2) * (p2 * q3 - p3 * q2) + (p3 * q1 - p1 * q3) * (p3 * q1 - p1 * q3) + (p1 * q2 - p2 * q1) * (p1 * q2 - p2 * q1)) ≤
  ((p1 * p1 + p2 * p2 + p3 * p3) + (q1 * q1 + q2 * q2 + q3 * q3) + ((q1 - p1) * (q1 - p1) + (q2 - p2) * (q2 - p2) + (q3 - p3) * (q3 - p3))) *
  ((p1 * p1 + p2 * p2 + p3 * p3) + (q1 * q1 + q2 * q2 + q3 * q3) + ((q1 - p1) * (q1 - p1) + (q2 - p2) * (q2 - p2) + (q3 - p3) * (q3 - p3))) := by
 have e1 : (p2 * q3 - p3 * q2) * (p2 * q3 - p3 * q2) + (p3 * q1 - p1 * q3) * (p3 * q1 - p1 * q3) + (p1 * q2 - p2 * q1) * (p1 * q2 - p2 * q1) =
   (p1 * p1 + p2 * p2 + p3 * p3) * (q1 * q1 + q2 * q2 + q3 * q3) - (p1 * q1 + p2 * q2 + p3 * q3) * (p1 * q1 + p2 * q2 + p3 * q3) := by grind
 have e2 : (q1 - p1) * (q1 - p1) + (q2 - p2) * (q2 - p2) + (q3 - p3) * (q3 - p3) = (p1 * p1 + p2 * p2 + p3 * p3) + (q1 * q1 + q2 * q2 + q3 * q3) - 2 * (p1 * q1 + p2 * q2 + p3 * q3) := by grind
 rw [e1, e2]
 generalize p1 * p1 + p2 * p2 + p3 * p3 = P
 generalize q1 * q1 + q2 * q2 + q3 * q3 = Q
 generalize p1 * q1 + p2 * q2 + p3 * q3 = D
 have h1 := sq_nn ((P + Q) / 2 - 2 * D)
 have h2 := sq_nn (P - Q)
 grind
theorem sq_part {x y e w : Rat} (hw : 0 ≤ w) (he : 0 ≤ e) (h : near (e * w) y x) : y * y ≤ x * x + x * x / 1000 + 1001 * (e * w * (e * w)) := by
 obtain ⟨h1, h2⟩ := h
 have h0 := mul_nn he hw
 have d2 : (y - x) * (y - x) ≤ e * w * (e * w) := by
  rcases (Rat.le_total : (0 : Rat) ≤ y - x ∨ y - x ≤ 0) with h | h
  ·have := mul_le_r h h1
   have := Rat.mul_le_mul_of_nonneg_left h1 h0
   grind
  ·have := mul_le_r (show 0 ≤ x - y by grind) h2
   have := Rat.mul_le_mul_of_nonneg_left h2 h0
   grind
 have s := sq_nn (x - 1000 * (y - x))
 grind
theorem sq_down {x y e m : Rat} (he : 0 ≤ e) (hm : ab x ≤ m) (h : near (e * m) y x) : x * x - 2 * e * (m * m) ≤ y * y := by
 obtain ⟨h1, h2⟩ := h
 have hn := ab_nonneg x
 have hm0 : 0 ≤ m := Rat.le_trans hn hm
 have hem := mul_nn he hm0
 have s := sq_nn (y - x)
 have k1 : -m ≤ x := by have := neg_ab x; grind
 have k2 : x ≤ m := Rat.le_trans (le_ab x) hm
 have key : -(e * m * m) ≤ x * (y - x) := by
  rcases (Rat.le_total : (0 : Rat) ≤ x ∨ x ≤ 0) with h | h
  ·have a1 := Rat.mul_le_mul_of_nonneg_left h2 h
   have a2 := mul_le_r hem k2
   grind
  ·have a1 := Rat.mul_le_mul_of_nonneg_left h1 (show 0 ≤ -x by grind)
   have a2 := mul_le_r hem (show -x ≤ m by grind)
   grind
 grind
theorem thick_sum {p1 p2 p3 q1 q2 q3 e1 e2 e3 f1 f2 f3 a1 a2 a3 S : Rat} (s1 : 0 ≤ p1 * p1) (s2 : 0 ≤ p2 * p2) (s3 : 0 ≤ p3 * p3) (t1 : 0 ≤ q1 * q1) (t2 : 0 ≤ q2 * q2) (t3 : 0 ≤ q3 * q3) (r1 : 0 ≤ (q1 - p1) * (q1 - p1)) (r2 : 0 ≤ (q2 - p2) * (q2 - p2)) (r3 : 0 ≤ (q3 - p3) * (q3 - p3))
  (d1 : (q1 - p1) * (q1 - p1) - 2 * (1 / 1000000) * a1 ≤ e1) (d2 : (q2 - p2) * (q2 - p2) - 2 * (1 / 1000000) * a2 ≤ e2) (d3 : (q3 - p3) * (q3 - p3) - 2 * (1 / 1000000) * a3 ≤ e3)
  (u1 : a1 ≤ 2 * (p1 * p1 + q1 * q1)) (u2 : a2 ≤ 2 * (p2 * p2 + q2 * q2)) (u3 : a3 ≤ 2 * (p3 * p3 + q3 * q3))
  (g1 : -q1 * -q1 - 2 * (1 / 1000000) * (q1 * q1) ≤ f1) (g2 : -q2 * -q2 - 2 * (1 / 1000000) * (q2 * q2) ≤ f2) (g3 : -q3 * -q3 - 2 * (1 / 1000000) * (q3 * q3) ≤ f3)
  (hS : ((p1 * p1 + p2 * p2 + p3 * p3) + (e1 + e2 + e3) + (f1 + f2 + f3)) * (999999 / 1000000) ≤ S) :
  ((p1 * p1 + p2 * p2 + p3 * p3) + (q1 * q1 + q2 * q2 + q3 * q3) + ((q1 - p1) * (q1 - p1) + (q2 - p2) * (q2 - p2) + (q3 - p3) * (q3 - p3))) * (99998 / 100000) ≤ S := by
 grind
theorem thick_real {p1 p2 p3 q1 q2 q3 e1 e2 e3 f1 f2 f3 n1 n2 n3 S L k X : Rat}
  (he1 : near (1 / 1000000 * (ab p1 + ab q1)) e1 (q1 - p1)) (he2 : near (1 / 1000000 * (ab p2 + ab q2)) e2 (q2 - p2)) (he3 : near (1 / 1000000 * (ab p3 + ab q3)) e3 (q3 - p3))
  (hf1 : near (1 / 1000000 * ab q1) f1 (-q1)) (hf2 : near (1 / 1000000 * ab q2) f2 (-q2)) (hf3 : near (1 / 1000000 * ab q3) f3 (-q3))
  (hn1 : near (1 / 1000000 * ((p1 * p1 + p2 * p2 + p3 * p3) + (q1 * q1 + q2 * q2 + q3 * q3))) n1 (p2 * q3 - p3 * q2))
  (hn2 : near (1 / 1000000 * ((p1 * p1 + p2 * p2 + p3 * p3) + (q1 * q1 + q2 * q2 + q3 * q3))) n2 (p3 * q1 - p1 * q3))
  (hn3 : near (1 / 1000000 * ((p1 * p1 + p2 * p2 + p3 * p3) + (q1 * q1 + q2 * q2 + q3 * q3))) n3 (p1 * q2 - p2 * q1))
  (hS : ((p1 * p1 + p2 * p2 + p3 * p3) + (e1 * e1 + e2 * e2 + e3 * e3) + (f1 * f1 + f2 * f2 + f3 * f3)) * (999999 / 1000000) ≤ S)
  (hX : X ≤ (n1 * n1 + n2 * n2 + n3 * n3) * (1000001 / 1000000) + 1 / 1000000 * (1 / 1000000) * (((p1 * p1 + p2 * p2 + p3 * p3) + (q1 * q1 + q2 * q2 + q3 * q3)) * ((p1 * p1 + p2 * p2 + p3 * p3) + (q1 * q1 + q2 * q2 + q3 * q3))))
  (hL : L * L ≤ X + X / 1000000) (hk : k * k ≤ 12 + 1 / 1000000) (hX0 : 0 ≤ X) :
  k * L ≤ S + S / 1000 * (7 / 10) := by
 have hW := weitz p1 p2 p3 q1 q2 q3
 have s1 := sq_nn p1; have s2 := sq_nn p2; have s3 := sq_nn p3
 have t1 := sq_nn q1; have t2 := sq_nn q2; have t3 := sq_nn q3
 have r1 := sq_nn (q1 - p1); have r2 := sq_nn (q2 - p2); have r3 := sq_nn (q3 - p3)
 have w0 : 0 ≤ (p1 * p1 + p2 * p2 + p3 * p3) + (q1 * q1 + q2 * q2 + q3 * q3) := by grind
 have qp : ∀ p q : Rat, (ab p + ab q) * (ab p + ab q) ≤ 2 * (p * p + q * q) := fun p q => by
  have := sq_nn (ab p - ab q);have a1 : ab p * ab p = p * p := by rw [← ab_mul, ab_pos (sq_nn p)]
  have a2 : ab q * ab q = q * q := by rw [← ab_mul, ab_pos (sq_nn q)]
  grind
 have abd : ∀ p q : Rat, ab (q - p) ≤ ab p + ab q := fun p q => by grind [ab]
 have d1 := sq_down (e := 1 / 1000000) (by grind) (abd p1 q1) he1
 have d2 := sq_down (e := 1 / 1000000) (by grind) (abd p2 q2) he2
 have d3 := sq_down (e := 1 / 1000000) (by grind) (abd p3 q3) he3
 have u1 := qp p1 q1; have u2 := qp p2 q2; have u3 := qp p3 q3
 have abn : ∀ q : Rat, ab (-q) ≤ ab q := fun q => by grind [ab]
 have aq : ∀ q : Rat, ab q * ab q = q * q := fun q => by rw [← ab_mul, ab_pos (sq_nn q)]
 have g1 := sq_down (e := 1 / 1000000) (by grind) (abn q1) hf1
 have g2 := sq_down (e := 1 / 1000000) (by grind) (abn q2) hf2
 have g3 := sq_down (e := 1 / 1000000) (by grind) (abn q3) hf3
 rw [aq] at g1 g2 g3
 have m1 := sq_part w0 (by grind) hn1
 have m2 := sq_part w0 (by grind) hn2
 have m3 := sq_part w0 (by grind) hn3
 clear he1 he2 he3 hf1 hf2 hf3 hn1 hn2 hn3 abd abn qp aq
 generalize hnn : (p2 * q3 - p3 * q2) * (p2 * q3 - p3 * q2) + (p3 * q1 - p1 * q3) * (p3 * q1 - p1 * q3) + (p1 * q2 - p2 * q1) * (p1 * q2 - p2 * q1) = NN at hW
 have hm : n1 * n1 + n2 * n2 + n3 * n3 ≤ NN + NN / 1000 + 3003 * (1 / 1000000 * ((p1 * p1 + p2 * p2 + p3 * p3) + (q1 * q1 + q2 * q2 + q3 * q3)) * (1 / 1000000 * ((p1 * p1 + p2 * p2 + p3 * p3) + (q1 * q1 + q2 * q2 + q3 * q3)))) := by
  rw [← hnn]
  grind
 clear m1 m2 m3 hnn
 have hSS := thick_sum s1 s2 s3 t1 t2 t3 r1 r2 r3 d1 d2 d3 u1 u2 u3 g1 g2 g3 hS
 clear d1 d2 d3 g1 g2 g3 u1 u2 u3 hS
 have hwS : (p1 * p1 + p2 * p2 + p3 * p3) + (q1 * q1 + q2 * q2 + q3 * q3) ≤ (p1 * p1 + p2 * p2 + p3 * p3) + (q1 * q1 + q2 * q2 + q3 * q3) + ((q1 - p1) * (q1 - p1) + (q2 - p2) * (q2 - p2) + (q3 - p3) * (q3 - p3)) := by grind
 generalize (p1 * p1 + p2 * p2 + p3 * p3) + (q1 * q1 + q2 * q2 + q3 * q3) + ((q1 - p1) * (q1 - p1) + (q2 - p2) * (q2 - p2) + (q3 - p3) * (q3 - p3)) = Z at *
 generalize (p1 * p1 + p2 * p2 + p3 * p3) + (q1 * q1 + q2 * q2 + q3 * q3) = w at *
 generalize n1 * n1 + n2 * n2 + n3 * n3 = M at *
 clear s1 s2 s3 t1 t2 t3 r1 r2 r3
 have hZ0 : 0 ≤ Z := Rat.le_trans w0 hwS
 have hww : w * w ≤ Z * Z := Rat.le_trans (mul_le_r w0 hwS) (Rat.mul_le_mul_of_nonneg_left hwS hZ0)
 have hw2 := sq_nn w
 have hX1 : 12 * X ≤ Z * Z * (10011 / 10000) := by grind
 have hkL : (k * L) * (k * L) ≤ Z * Z * (10012 / 10000) := by
  have a1 : (k * L) * (k * L) = (k * k) * (L * L) := by grind
  have a2 := mul_le_r (sq_nn L) hk;have a3 := sq_nn Z
  grind
 have hS0 : 0 ≤ S := by grind
 refine sq_le (by grind) ?_
 have a1 : Z * (99998 / 100000) * (Z * (99998 / 100000)) ≤ S * S := Rat.le_trans (mul_le_r (by grind) hSS) (Rat.mul_le_mul_of_nonneg_left hSS hS0)
 have a2 : (S + S / 1000 * (7 / 10)) * (S + S / 1000 * (7 / 10)) = S * S * (10007 / 10000 * (10007 / 10000)) := by grind
 rw [a2]
 have a3 := sq_nn Z
 have a4 := sq_nn S
 grind
end Vs
