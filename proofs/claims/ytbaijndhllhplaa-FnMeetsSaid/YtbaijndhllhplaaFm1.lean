/-
  Weighted means of places in floats; the sum of the ways to three places becomes no longer, nearly: the rational part.
-/
import Derived.Test.YtbaijndhllhplaaFe8
set_option maxHeartbeats 4000000
namespace Vs
open Go Ieee
theorem len_cmp2 {a1 a2 a3 b1 b2 b3 A B t : Rat} (hA : 0 ≤ A) (ht : 1 / 1000000000 ≤ t) (h1 : a1 * a1 + a2 * a2 + a3 * a3 ≤ A * A * (250001 / 250000) + 1 / 10000000000000000000) (h2 : B * B ≤ (b1 * b1 + b2 * b2 + b3 * b3) * (250001 / 250000) + 1 / 10000000000000000000)
  (u1 : ab (b1 - a1) ≤ t) (u2 : ab (b2 - a2) ≤ t) (u3 : ab (b3 - a3) ≤ t) : B ≤ A * (125001 / 125000) + 4 * t := by
 have e1 : b1 = a1 + (b1 - a1) := by grind
 have e2 : b2 = a2 + (b2 - a2) := by grind
 have e3 : b3 = a3 + (b3 - a3) := by grind
 have q1 := sq_mono u1; have q2 := sq_mono u2; have q3 := sq_mono u3
 generalize b1 - a1 = x at *
 generalize b2 - a2 = y at *
 generalize b3 - a3 = z at *
 clear u1 u2 u3
 have hc : (a1 * x + a2 * y + a3 * z) * (a1 * x + a2 * y + a3 * z) ≤ (a1 * a1 + a2 * a2 + a3 * a3) * (x * x + y * y + z * z) := by
  have s1 := sq_nn (a1 * y - a2 * x); have s2 := sq_nn (a1 * z - a3 * x); have s3 := sq_nn (a2 * z - a3 * y)
  grind
 have hb : b1 * b1 + b2 * b2 + b3 * b3 = (a1 * a1 + a2 * a2 + a3 * a3) + 2 * (a1 * x + a2 * y + a3 * z) + (x * x + y * y + z * z) := by
  rw [e1, e2, e3]
  grind
 rw [hb] at h2
 clear hb e1 e2 e3
 have s1 := sq_nn x; have s2 := sq_nn y; have s3 := sq_nn z
 have r1 := sq_nn a1; have r2 := sq_nn a2; have r3 := sq_nn a3
 have hU : x * x + y * y + z * z ≤ 3 * (t * t) := by grind
 have hS0 : 0 ≤ a1 * a1 + a2 * a2 + a3 * a3 := by grind
 generalize x * x + y * y + z * z = U at *
 generalize a1 * a1 + a2 * a2 + a3 * a3 = S at *
 generalize a1 * x + a2 * y + a3 * z = d at *
 clear s1 s2 s3 r1 r2 r3 q1 q2 q3
 have ht0 : 0 ≤ t := by grind
 have htt : 1 / 1000000000000000000 ≤ t * t := by
  have k1 := mul_le_r ht0 ht;have k2 := mul_le_r (show (0 : Rat) ≤ 1 / 1000000000 by grind) ht
  grind
 have htA := mul_nn ht0 hA
 have hd : d ≤ 7 / 4 * (t * A) + 2 * (t * t) := by
  have htn := mul_nn ht0 ht0;refine sq_le (by grind) ?_
  have a1 := Rat.mul_le_mul_of_nonneg_left hU hS0;have a4 := mul_le_r (show 0 ≤ 3 * (t * t) by grind) h1
  have a5 := mul_nn htA htn;have a6 := mul_nn htA htA;have a7 := mul_le_r htn htt;have e : (7 / 4 * (t * A) + 2 * (t * t)) * (7 / 4 * (t * A) + 2 * (t * t)) = 49 / 16 * (t * A * (t * A)) + 7 * (t * A * (t * t)) + 4 * (t * t * (t * t)) := by grind
  have e2 : A * A * (3 * (t * t)) = 3 * (t * A * (t * A)) := by grind
  rw [e];generalize t * A * (t * A) = v1 at *;generalize t * A * (t * t) = v2 at *;generalize t * t * (t * t) = v3 at *
  grind
 refine sq_le (by grind) ?_
 have a2 := sq_nn A
 have e : (A * (125001 / 125000) + 4 * t) * (A * (125001 / 125000) + 4 * t) = A * A * (125001 / 125000 * (125001 / 125000)) + 8 * (125001 / 125000) * (t * A) + 16 * (t * t) := by grind
 rw [e]
 generalize A * A = v1 at *
 generalize t * A = v2 at *
 generalize t * t = v3 at *
 grind
theorem mean_cut {u v w x1 x2 x3 m1 m2 m3 s1 s2 t1 t2 g q e h : Rat} (he0 : 0 ≤ e) (he : e ≤ 1 / 1393796574908163946345982392040522594123776)
  (hu0 : 0 ≤ u) (hv0 : 0 ≤ v) (hw0 : 0 ≤ w) (hU : 1 / 10 ≤ u + v + w) (hU2 : u + v + w ≤ 1208925819614629174706176) (hx1 : ab x1 ≤ 2) (hx2 : ab x2 ≤ 2) (hx3 : ab x3 ≤ 2)
  (p1 : near (1 / 8388608 * ab (x1 * u) + e) m1 (x1 * u)) (p2 : near (1 / 8388608 * ab (x2 * v) + e) m2 (x2 * v)) (p3 : near (1 / 8388608 * ab (x3 * w) + e) m3 (x3 * w))
  (q1 : near (1 / 8388608 * ab (m1 + m2)) s1 (m1 + m2)) (q2 : near (1 / 8388608 * ab (s1 + m3)) s2 (s1 + m3))
  (r1 : near (1 / 8388608 * ab (u + v)) t1 (u + v)) (r2 : near (1 / 8388608 * ab (t1 + w)) t2 (t1 + w)) (hh : h * t2 = 1) (hg : near (1 / 8388608 * ab h + e) g h) (hq : near (1 / 8388608 * ab (s2 * g) + e) q (s2 * g)) {Z : Rat} (hZ : Z * (u + v + w) = x1 * u + x2 * v + x3 * w) :
  ab Z ≤ 2 ∧ ab (q - Z) ≤ 1 / 500000 := by
 have k1 := ab_mul_le hx1 (show ab u ≤ u by rw [ab_pos hu0]; exact Rat.le_refl)
 have k2 := ab_mul_le hx2 (show ab v ≤ v by rw [ab_pos hv0]; exact Rat.le_refl)
 have k3 := ab_mul_le hx3 (show ab w ≤ w by rw [ab_pos hw0]; exact Rat.le_refl)
 have hUp : 0 < u + v + w := by grind
 rw [ab_near] at p1 p2 p3 q1 q2
 rw [ab_pos (by grind)] at r1
 obtain ⟨r1, r1'⟩ := r1
 have ht1 : 0 ≤ t1 := by grind
 rw [ab_pos (by grind)] at r2
 obtain ⟨r2, r2'⟩ := r2
 have hs : ab (s2 - (x1 * u + x2 * v + x3 * w)) ≤ 62 / 83886080 * (u + v + w) + 4 * e := by
  generalize x1 * u = y1 at *;generalize x2 * v = y2 at *;generalize x3 * w = y3 at *;have b1 := ab_add (m1 - y1) y1;have b2 := ab_add (m2 - y2) y2;have b3 := ab_add (m3 - y3) y3;rw [show m1 - y1 + y1 = m1 by grind] at b1
  rw [show m2 - y2 + y2 = m2 by grind] at b2
  rw [show m3 - y3 + y3 = m3 by grind] at b3
  have b4 := ab_add m1 m2;have b5 := ab_add (s1 - (m1 + m2)) (m1 + m2);rw [show s1 - (m1 + m2) + (m1 + m2) = s1 by grind] at b5
  have b6 := ab_add s1 m3;have e1 : s2 - (y1 + y2 + y3) = (s2 - (s1 + m3)) + ((s1 - (m1 + m2)) + ((m1 - y1) + ((m2 - y2) + (m3 - y3)))) := by grind
  rw [e1];have c1 := ab_add (s2 - (s1 + m3)) ((s1 - (m1 + m2)) + ((m1 - y1) + ((m2 - y2) + (m3 - y3))));have c2 := ab_add (s1 - (m1 + m2)) ((m1 - y1) + ((m2 - y2) + (m3 - y3)));have c3 := ab_add (m1 - y1) ((m2 - y2) + (m3 - y3));have c4 := ab_add (m2 - y2) (m3 - y3);clear hZ hh hg hq e1 r1 r1' r2 r2'
  grind
 have hZ2 : ab Z ≤ 2 := by
  have a1 : ab Z * (u + v + w) = ab (x1 * u + x2 * v + x3 * w) := by rw [← hZ, ab_mul, ab_pos (Rat.le_of_lt hUp)]
  have a2 := ab_add (x1 * u + x2 * v) (x3 * w);have a3 := ab_add (x1 * u) (x2 * v);refine le_of_mul hUp ?_;rw [a1]
  grind
 refine ⟨hZ2, ?_⟩
 rw [← hZ] at hs
 clear p1 p2 p3 q1 q2 k1 k2 k3 hx1 hx2 hx3 hZ
 have ht2 : near (25 / 100000000 * (u + v + w)) t2 (u + v + w) := by constructor <;> grind
 generalize hUe : u + v + w = U at *
 clear r1 r1' r2 r2' hu0 hv0 hw0 hUe ht1
 obtain ⟨d1, d2⟩ := ht2
 have ht2p : 0 < t2 := by grind
 have hh0 : 0 ≤ h := by
  rcases (Rat.le_total : 0 ≤ h ∨ h ≤ 0) with h1 | h1
  ·exact h1
  ·exfalso
   have := mul_le_r (Rat.le_of_lt ht2p) h1
   grind
 have hU0 : 0 ≤ U := by grind
 have f1 := Rat.mul_le_mul_of_nonneg_left d1 hh0
 have f2 := Rat.mul_le_mul_of_nonneg_left d2 hh0
 have hhU0 := mul_nn hh0 hU0
 have g1 : ab (h * U - 1) ≤ 26 / 100000000 := ab_le (by grind) (by grind)
 rw [ab_pos hh0, ab_near] at hg
 have hgU : ab (g * U - 1) ≤ 4 / 10000000 := by
  have c1 := ab_mul_le hg (show ab U ≤ U by rw [ab_pos hU0]; exact Rat.le_refl)
  have e1 : g * U - 1 = (g - h) * U + (h * U - 1) := by grind
  rw [e1];have c2 := ab_add ((g - h) * U) (h * U - 1);have c3 : h * U ≤ 1 + 26 / 100000000 := by have := le_ab (h * U - 1); grind
  have c4 := mul_le_r he0 hU2
  grind
 have e1 : s2 * g - Z = (s2 - Z * U) * g + Z * (g * U - 1) := by grind
 have c1 := ab_mul_le hZ2 hgU
 have hgb : ab g * U ≤ 1 + 4 / 10000000 := by
  have := ab_add (g * U - 1) 1;rw [show g * U - 1 + 1 = g * U by grind, ab_mul, ab_pos hU0, ab_pos (show (0 : Rat) ≤ 1 by grind)] at this
  grind
 have hgn := ab_nonneg g
 have c2 : ab ((s2 - Z * U) * g) ≤ 75 / 100000000 := by
  rw [ab_mul];have a1 := mul_le_r hgn hs;have a2 : ab g * (1 / 10) ≤ ab g * U := Rat.mul_le_mul_of_nonneg_left hU hgn;have a3 : (62 / 83886080 * U + 4 * e) * ab g = 62 / 83886080 * (ab g * U) + 4 * (e * ab g) := by grind
  have a4 : e * ab g ≤ 1 / 1393796574908163946345982392040522594123776 * ab g := mul_le_r hgn he
  grind
 have c3 := ab_add ((s2 - Z * U) * g) (Z * (g * U - 1))
 rw [← e1] at c3
 rw [ab_near] at hq
 have c4 := ab_add (s2 * g - Z) Z
 rw [show s2 * g - Z + Z = s2 * g by grind] at c4
 have c5 := ab_add (q - s2 * g) (s2 * g - Z)
 rw [show q - s2 * g + (s2 * g - Z) = q - Z by grind] at c5
 grind
theorem wgt_near {w u e : Rat} (he : e ≤ 1 / 1393796574908163946345982392040522594123776) (hw : 1 / 10 ≤ w) (h : near (1 / 8388608 * ab w + e) u w) : ab (u - w) ≤ 13 / 100000000 * w ∧ 0 ≤ u := by
 rw [ab_pos (by grind)] at h
 obtain ⟨h1, h2⟩ := h
 exact ⟨ab_le (by grind) (by grind), by grind⟩
theorem mean_near {u v w a b c x1 x2 x3 Z X q : Rat} (ha : 0 ≤ a) (hb : 0 ≤ b) (hc : 0 ≤ c) (hp : 1 / 10 ≤ a + b + c) (h1 : ab (u - a) ≤ 13 / 100000000 * a) (h2 : ab (v - b) ≤ 13 / 100000000 * b) (h3 : ab (w - c) ≤ 13 / 100000000 * c) (hx1 : ab x1 ≤ 2) (hx2 : ab x2 ≤ 2) (hx3 : ab x3 ≤ 2)
  (hZ : Z * (u + v + w) = x1 * u + x2 * v + x3 * w) (hX : X * (a + b + c) = x1 * a + x2 * b + x3 * c) (hq : ab (q - Z) ≤ 1 / 500000) : ab (q - X) ≤ 3 / 1000000 := by
 have hWp : 0 < a + b + c := by grind
 have k1 := ab_mul_le hx1 (show ab a ≤ a by rw [ab_pos ha]; exact Rat.le_refl)
 have k2 := ab_mul_le hx2 (show ab b ≤ b by rw [ab_pos hb]; exact Rat.le_refl)
 have k3 := ab_mul_le hx3 (show ab c ≤ c by rw [ab_pos hc]; exact Rat.le_refl)
 have hX2 : ab X ≤ 2 := by
  have a1 : ab X * (a + b + c) = ab (x1 * a + x2 * b + x3 * c) := by rw [← hX, ab_mul, ab_pos (Rat.le_of_lt hWp)]
  have a2 := ab_add (x1 * a + x2 * b) (x3 * c);have a3 := ab_add (x1 * a) (x2 * b);refine le_of_mul hWp ?_;rw [a1]
  grind
 have d : ∀ x, ab x ≤ 2 → ab (x - X) ≤ 4 := fun x hx => by
  have := ab_sub x X
  grind
 have e1 : (Z - X) * (u + v + w) = (u - a) * (x1 - X) + ((v - b) * (x2 - X) + (w - c) * (x3 - X)) := by grind
 have b1 := ab_mul_le h1 (d x1 hx1)
 have b2 := ab_mul_le h2 (d x2 hx2)
 have b3 := ab_mul_le h3 (d x3 hx3)
 have c1 := ab_add ((u - a) * (x1 - X)) ((v - b) * (x2 - X) + (w - c) * (x3 - X))
 have c2 := ab_add ((v - b) * (x2 - X)) ((w - c) * (x3 - X))
 rw [← e1] at c1
 have hU : (a + b + c) * (99 / 100) ≤ u + v + w := by
  have l1 := neg_ab (u - a); have l2 := neg_ab (v - b); have l3 := neg_ab (w - c)
  grind
 have hUp : 0 < u + v + w := by grind
 rw [ab_mul, ab_pos (Rat.le_of_lt hUp)] at c1
 have hZX : ab (Z - X) ≤ 6 / 10000000 := by
  refine le_of_mul hUp ?_;clear e1 hZ hX k1 k2 k3 d;generalize ab (Z - X) * (u + v + w) = r at *;generalize u + v + w = U at *
  grind
 have := ab_add (q - Z) (Z - X)
 rw [show q - Z + (Z - X) = q - X by grind] at this
 grind
theorem mean_best {a b c x1 x2 x3 X p q : Rat} (hX : X * (a + b + c) = x1 * a + x2 * b + x3 * c) (hW : 0 ≤ a + b + c) (hq : ab (q - X) ≤ 3 / 1000000) :
  a * ((q - x1) * (q - x1)) + b * ((q - x2) * (q - x2)) + c * ((q - x3) * (q - x3)) ≤ a * ((p - x1) * (p - x1)) + b * ((p - x2) * (p - x2)) + c * ((p - x3) * (p - x3)) + (a + b + c) * (9 / 1000000000000) := by
 have s1 := sq_mono hq
 have s2 := sq_nn (p - X)
 have k1 := Rat.mul_le_mul_of_nonneg_left s1 hW
 have k2 := mul_nn hW s2
 have e1 : ∀ y, a * ((y - x1) * (y - x1)) + b * ((y - x2) * (y - x2)) + c * ((y - x3) * (y - x3)) = (a + b + c) * ((y - X) * (y - X)) + (a * (x1 * x1) + b * (x2 * x2) + c * (x3 * x3) - X * (X * (a + b + c))) := fun y => by grind
 rw [e1 q, e1 p]
 grind
theorem way_B {wa wb wc Da Db Dc Ea Eb Ec Pa Pb Pc Qa Qb Qc : Rat} (ha : wa * Da = 1) (hb : wb * Db = 1) (hc : wc * Dc = 1) (da : 1 / 1000000 ≤ Da) (db : 1 / 1000000 ≤ Db) (dc : 1 / 1000000 ≤ Dc) (da2 : Da ≤ 8) (db2 : Db ≤ 8) (dc2 : Dc ≤ 8) (wa0 : 0 ≤ wa) (wb0 : 0 ≤ wb) (wc0 : 0 ≤ wc)
  (pa : Pa ≤ Da * Da * (250001 / 250000) + 1 / 10000000000000000000) (pb : Pb ≤ Db * Db * (250001 / 250000) + 1 / 10000000000000000000) (pc : Pc ≤ Dc * Dc * (250001 / 250000) + 1 / 10000000000000000000)
  (qa : Ea * Ea ≤ Qa * (250001 / 250000) + 1 / 10000000000000000000) (qb : Eb * Eb ≤ Qb * (250001 / 250000) + 1 / 10000000000000000000) (qc : Ec * Ec ≤ Qc * (250001 / 250000) + 1 / 10000000000000000000)
  (h : wa * Qa + wb * Qb + wc * Qc ≤ wa * Pa + wb * Pb + wc * Pc + (wa + wb + wc) * (27 / 1000000000000)) : Ea + Eb + Ec ≤ Da + Db + Dc + 3 / 10000 := by
 have key : ∀ {w D E P Q : Rat}, w * D = 1 → 1 / 1000000 ≤ D → 0 ≤ w → P ≤ D * D * (250001 / 250000) + 1 / 10000000000000000000 → E * E ≤ Q * (250001 / 250000) + 1 / 10000000000000000000 → w ≤ 1000000 ∧ w * P ≤ D * (250001 / 250000) + w / 10000000000000000000 ∧ 2 * E ≤ w * Q * (250001 / 250000) + w / 10000000000000000000 + D := fun {w D E P Q} h0 h1 h2 h3 h4 => by
  have a1 := Rat.mul_le_mul_of_nonneg_left h1 h2;have a2 := Rat.mul_le_mul_of_nonneg_left h3 h2;have a3 := Rat.mul_le_mul_of_nonneg_left h4 h2;have a4 := sq_nn (w * E - 1);have a5 := mul_nn (show 0 ≤ D by grind) a4
  have e1 : w * (D * D * (250001 / 250000) + 1 / 10000000000000000000) = w * D * D * (250001 / 250000) + w / 10000000000000000000 := by grind
  rw [e1, h0] at a2;have e2 : D * ((w * E - 1) * (w * E - 1)) = w * D * (w * (E * E)) - 2 * (w * D * E) + D := by grind
  rw [e2, h0] at a5;rw [h0] at a1;refine ⟨by grind, by grind, by grind⟩
 obtain ⟨a1, a2, a3⟩ := key ha da wa0 pa qa
 obtain ⟨b1, b2, b3⟩ := key hb db wb0 pb qb
 obtain ⟨c1, c2, c3⟩ := key hc dc wc0 pc qc
 clear key pa pb pc qa qb qc ha hb hc
 grind
end Vs
