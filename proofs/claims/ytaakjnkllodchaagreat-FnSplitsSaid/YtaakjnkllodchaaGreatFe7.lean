/-
  Quotients of floats with their errors; the length of a normal; a triangle that is split.
-/
import Derived.Test.YtaakjnkllodchaaGreatFe1
import Derived.Test.YtaakjnkllodchaaGreatK31
import Derived.Test.YtaakjnkllodchaaGreatK9
import Derived.Test.YtaakjnkllodchaaGreatK54
import Derived.Test.YtaakjnkllodchaaGreatK49
set_option maxHeartbeats 4000000
namespace Vs
open Go Ieee
variable {k : FloatKind} {x y : Nat}
theorem fr_sign (z : Nat) : (sgn k.format z = false ∧ fr k z = ab (fr k z)) ∨ (sgn k.format z = true ∧ fr k z = -ab (fr k z)) := by
 have hz := ab_fr (k := k) z
 have hD := dn_pos k
 rcases fr_cases (k := k) z with ⟨c1, c2⟩ | ⟨c1, c2⟩
 ·exact .inl ⟨c1, by rw [← hz] at c2; exact mul_cancel hD c2⟩
 ·exact .inr ⟨c1, by rw [← hz, ← Rat.neg_mul] at c2; exact mul_cancel hD c2⟩
theorem div_cut {z Q Y D B e t X : Rat} (hD : 0 < D) (hB : 0 < B) (hY : 0 < Y) (he : e * B = 1) (ht : t * D = 1) (hQ : Q * Y = X) (e1 : (z * D * (Y * D) - X * D * D) * B ≤ X * D * D + Y * D * B) (e2 : (X * D * D - z * D * (Y * D)) * B ≤ X * D * D + Y * D * B) : near (e * Q + t) z Q := by
 subst hQ
 have hp := Rat.mul_pos (Rat.mul_pos (Rat.mul_pos hY hD) hD) hB
 have h1 : e * Q * (Y * D * D * B) = Q * Y * D * D := by
  have : e * Q * (Y * D * D * B) = Q * Y * D * D * (e * B) := by grind
  rw [this, he, Rat.mul_one]
 have h2 : t * (Y * D * D * B) = Y * D * B := by
  have : t * (Y * D * D * B) = Y * D * B * (t * D) := by grind
  rw [this, ht, Rat.mul_one]
 constructor
 ·refine le_of_mul hp ?_
  rw [Rat.add_mul, h1, h2]
  grind
 ·refine le_of_mul hp ?_
  rw [Rat.add_mul, h1, h2]
  grind
theorem div_E (hx : rk k x < inf k) (hy : rk k y < inf k) (h0 : rk k y ≠ 0) (hz : rk k (fdiv k x y) < inf k) {Q : Rat} (hQ : Q * fr k y = fr k x) : near (ep k * ab Q + et k) (fr k (fdiv k x y)) Q := by
 obtain ⟨r, h1, h2⟩ := fdiv_R hx hy h0
 rw [h1, rk_word h2.1] at hz
 have hVy : 0 < Vk k (rk k y) := V_pos (Nat.pos_of_ne_zero h0)
 obtain ⟨e1, e2⟩ := err_R hVy h2 hz
 have hw := fr_word (u := (sgn k.format x ^^ sgn k.format y)) h2.1
 rw [← h1] at hw
 have hD := dn_pos k
 have hB := bi_pos k
 have a1 := ab_fr (k := k) x
 have a2 := ab_fr (k := k) y
 rw [Rat.natCast_mul, ← a1, ← a2] at e1 e2
 have hep : ep k * (k.format.binade : Rat) = 1 := by have := ep_bi k 1; rwa [Rat.mul_one] at this
 have het : et k * (dn k : Rat) = 1 := by
  unfold et;generalize (dn k : Rat) = D at *
  grind
 have hYp : 0 < ab (fr k y) := by
  have : (0 : Rat) < ((Vk k (rk k y) : Nat) : Rat) := by exact_mod_cast hVy
  rw [← a2] at this;have hn := ab_nonneg (fr k y)
  by_cases h : ab (fr k y) = 0
  ·rw [h, Rat.zero_mul] at this
   exact absurd this Rat.lt_irrefl
  ·grind
 have hQa : ab Q * ab (fr k y) = ab (fr k x) := by rw [← ab_mul, hQ]
 have hs : ∃ s : Rat, (s = 1 ∨ s = -1) ∧ fr k (fdiv k x y) * (dn k : Rat) = s * ((Vk k r : Nat) : Rat) ∧ Q = s * ab Q := by
  rcases fr_sign (k := k) x with ⟨sx, vx⟩ | ⟨sx, vx⟩ <;> rcases fr_sign (k := k) y with ⟨sy, vy⟩ | ⟨sy, vy⟩ <;> rw [sx, sy] at hw
  ·refine ⟨1, .inl rfl, by rw [hw]; simp, ?_⟩
   refine mul_cancel hYp ?_;rw [← vy, hQ, Rat.one_mul];rw [vx, ← hQa, ← vy]
  ·refine ⟨-1, .inr rfl, by rw [hw]; simp; grind, ?_⟩
   refine mul_cancel hYp ?_;have : Q * ab (fr k y) = -(fr k x) := by rw [← hQ]; grind
   rw [this, vx, ← hQa]
   grind
  ·refine ⟨-1, .inr rfl, by rw [hw]; simp; grind, ?_⟩
   refine mul_cancel hYp ?_;have : Q * ab (fr k y) = fr k x := by rw [← vy]; exact hQ
   rw [this, vx, ← hQa]
   grind
  ·refine ⟨1, .inl rfl, by rw [hw]; simp, ?_⟩
   refine mul_cancel hYp ?_;have : Q * ab (fr k y) = -(fr k x) := by rw [← hQ]; grind
   rw [this, vx, ← hQa]
   grind
 obtain ⟨s, s1, s2, s3⟩ := hs
 have n1 := ab_nonneg Q
 have hss : s * s = 1 := by rcases s1 with h | h <;> rw [h] <;> grind
 have hv : ((Vk k r : Nat) : Rat) = s * fr k (fdiv k x y) * (dn k : Rat) := by
  have : s * (fr k (fdiv k x y) * (dn k : Rat)) = s * (s * ((Vk k r : Nat) : Rat)) := by rw [s2]
  grind
 rw [hv] at e1 e2
 have key : near (ep k * ab Q + et k) (s * fr k (fdiv k x y)) (ab Q) := div_cut hD hB hYp hep het hQa e1 e2
 rw [show (near (ep k * ab Q + et k) (fr k (fdiv k x y)) Q) = near (ep k * ab Q + et k) (fr k (fdiv k x y)) (s * ab Q) by rw [← s3]]
 rcases s1 with rfl | rfl
 ·rw [Rat.one_mul] at key ⊢
  exact key
 ·have := near_neg key
  unfold near at *
  grind
end Vs
namespace Vs
open Go Ieee
theorem ab_add (x y : Rat) : ab (x + y) ≤ ab x + ab y := by grind [ab]
theorem ab_sub (x y : Rat) : ab (x - y) ≤ ab x + ab y := by grind [ab]
theorem ab_neg (x : Rat) : ab (-x) = ab x := by grind [ab]
theorem ab_near {e a b : Rat} : near e a b ↔ ab (a - b) ≤ e := by
 unfold near ab
 constructor
 ·rintro ⟨h1, h2⟩
  split <;> grind
 ·intro h
  split at h <;> constructor <;> grind
theorem ab_mul_le {x y m n : Rat} (hx : ab x ≤ m) (hy : ab y ≤ n) : ab (x * y) ≤ m * n := by
 have h0 := ab_nonneg x
 have h1 := ab_nonneg y
 rw [ab_mul]
 exact Rat.le_trans (mul_le_r h1 hx) (Rat.mul_le_mul_of_nonneg_left hy (Rat.le_trans h0 hx))
theorem prod_err {p q p' q' d m : Rat} (h1 : ab (p' - p) ≤ d) (h2 : ab (q' - q) ≤ d) (hp : ab p ≤ m) (hq : ab q' ≤ m) : ab (p' * q' - p * q) ≤ 2 * (d * m) := by
 have e : p' * q' - p * q = (p' - p) * q' + p * (q' - q) := by grind
 have a1 := ab_mul_le h1 hq
 have a2 := ab_mul_le hp h2
 have a3 := ab_add ((p' - p) * q') (p * (q' - q))
 rw [e]
 grind
theorem len_cmp {a1 a2 a3 b1 b2 b3 A B : Rat} (hA : 0 ≤ A) (h1 : a1 * a1 + a2 * a2 + a3 * a3 ≤ A * A * (500001 / 500000) + 1 / 100000000000000000000) (h2 : B * B ≤ (b1 * b1 + b2 * b2 + b3 * b3) * (500001 / 500000) + 1 / 100000000000000000000)
  (u1 : ab (b1 - a1) ≤ 1 / 10000) (u2 : ab (b2 - a2) ≤ 1 / 10000) (u3 : ab (b3 - a3) ≤ 1 / 10000) : B ≤ A * (250001 / 250000) + 4 / 10000 := by
 have e1 : b1 = a1 + (b1 - a1) := by grind
 have e2 : b2 = a2 + (b2 - a2) := by grind
 have e3 : b3 = a3 + (b3 - a3) := by grind
 have q1 := sq_mono u1; have q2 := sq_mono u2; have q3 := sq_mono u3
 generalize b1 - a1 = x at *
 generalize b2 - a2 = y at *
 generalize b3 - a3 = z at *
 clear u1 u2 u3
 have hc : (a1 * x + a2 * y + a3 * z) * (a1 * x + a2 * y + a3 * z) ≤ (a1 * a1 + a2 * a2 + a3 * a3) * (x * x + y * y + z * z) := by
  have s1 := sq_nn (a1 * y - a2 * x); have s2 := sq_nn (a1 * z - a3 * x); have s3 := sq_nn (a2 * z - a3 * y)
  grind
 have hb : b1 * b1 + b2 * b2 + b3 * b3 = (a1 * a1 + a2 * a2 + a3 * a3) + 2 * (a1 * x + a2 * y + a3 * z) + (x * x + y * y + z * z) := by
  rw [e1, e2, e3]
  grind
 rw [hb] at h2
 clear hb e1 e2 e3
 have s1 := sq_nn x; have s2 := sq_nn y; have s3 := sq_nn z
 have t1 := sq_nn a1; have t2 := sq_nn a2; have t3 := sq_nn a3
 have hU : x * x + y * y + z * z ≤ 3 / 100000000 := by grind
 have hU0 : 0 ≤ x * x + y * y + z * z := by grind
 have hS0 : 0 ≤ a1 * a1 + a2 * a2 + a3 * a3 := by grind
 generalize x * x + y * y + z * z = U at *
 generalize a1 * a1 + a2 * a2 + a3 * a3 = S at *
 generalize a1 * x + a2 * y + a3 * z = d at *
 clear s1 s2 s3 t1 t2 t3 q1 q2 q3
 have hd : d ≤ 7 / 40000 * A + 1 / 10000000000 := by
  refine sq_le (by grind) ?_
  have a1 := Rat.mul_le_mul_of_nonneg_left hU hS0;have a2 := sq_nn A;have a3 := mul_nn hA hA;have a4 : S * (3 / 100000000) ≤ (A * A * (500001 / 500000) + 1 / 100000000000000000000) * (3 / 100000000) := mul_le_r (by grind) h1
  grind
 refine sq_le (by grind) ?_
 have a2 := sq_nn A
 grind
def vR (v : V3) : Prop := vB 1086324736 v ∧ ab (rx v) ≤ 31 / 10 ∧ ab (ry v) ≤ 31 / 10 ∧ ab (rz v) ≤ 31 / 10
def nX (a b c : V3) : Rat := (ry b - ry a) * (rz c - rz a) - (rz b - rz a) * (ry c - ry a)
def nY (a b c : V3) : Rat := (rz b - rz a) * (rx c - rx a) - (rx b - rx a) * (rz c - rz a)
def nZ (a b c : V3) : Rat := (rx b - rx a) * (ry c - ry a) - (ry b - ry a) * (rx c - rx a)
theorem dif_e {x y : Nat} (hx : rk .f32 x ≤ 1086324736) (hy : rk .f32 y ≤ 1086324736) (ax : ab (fr .f32 x) ≤ 31 / 10) (ay : ab (fr .f32 y) ≤ 31 / 10) :
  ab (fr .f32 (fsub .f32 x y) - (fr .f32 x - fr .f32 y)) ≤ 62 / 83886080 ∧ ab (fr .f32 x - fr .f32 y) ≤ 62 / 10 ∧ ab (fr .f32 (fsub .f32 x y)) ≤ 621 / 100 := by
 have h1 := ab_near.1 (sub_e hx hy)
 have h2 := ab_sub (fr .f32 x) (fr .f32 y)
 have h3 := ab_add (fr .f32 (fsub .f32 x y) - (fr .f32 x - fr .f32 y)) (fr .f32 x - fr .f32 y)
 have e : fr .f32 (fsub .f32 x y) - (fr .f32 x - fr .f32 y) + (fr .f32 x - fr .f32 y) = fr .f32 (fsub .f32 x y) := by grind
 rw [e] at h3
 refine ⟨by grind, by grind, by grind⟩
theorem crs_e {x y z w : Nat} {X Y Z W : Rat} (hx : rk .f32 x ≤ 1098907648) (hy : rk .f32 y ≤ 1098907648) (hz : rk .f32 z ≤ 1098907648) (hw : rk .f32 w ≤ 1098907648)
  (dx : ab (fr .f32 x - X) ≤ 62 / 83886080 ∧ ab X ≤ 62 / 10 ∧ ab (fr .f32 x) ≤ 621 / 100) (dy : ab (fr .f32 y - Y) ≤ 62 / 83886080 ∧ ab Y ≤ 62 / 10 ∧ ab (fr .f32 y) ≤ 621 / 100)
  (dz : ab (fr .f32 z - Z) ≤ 62 / 83886080 ∧ ab Z ≤ 62 / 10 ∧ ab (fr .f32 z) ≤ 621 / 100) (dw : ab (fr .f32 w - W) ≤ 62 / 83886080 ∧ ab W ≤ 62 / 10 ∧ ab (fr .f32 w) ≤ 621 / 100) :
  ab (fr .f32 (fsub .f32 (fmul .f32 x y) (fmul .f32 z w)) - (X * Y - Z * W)) ≤ 1 / 25000 := by
 have m1 := fin_of (mul16 hx hy) (by decide)
 have m2 := fin_of (mul16 hz hw) (by decide)
 have h1 := ab_near.1 (mul_e (fin_of hx (by decide)) (fin_of hy (by decide)) m1)
 have h2 := ab_near.1 (mul_e (fin_of hz (by decide)) (fin_of hw (by decide)) m2)
 have h3 := sub_E (k := .f32) m1 m2 (fin_of (crs_1 hx hy hz hw) (by decide))
 rw [ep32, ab_near] at h3
 have p1 := prod_err dx.1 dy.1 (Rat.le_trans dx.2.1 (show (62 / 10 : Rat) ≤ 621 / 100 by grind)) dy.2.2
 have p2 := prod_err dz.1 dw.1 (Rat.le_trans dz.2.1 (show (62 / 10 : Rat) ≤ 621 / 100 by grind)) dw.2.2
 have b1 := ab_mul_le dx.2.2 dy.2.2
 have b2 := ab_mul_le dz.2.2 dw.2.2
 have ht := et32
 generalize fr .f32 (fmul .f32 x y) = m at *
 generalize fr .f32 (fmul .f32 z w) = n at *
 generalize fr .f32 (fsub .f32 (fmul .f32 x y) (fmul .f32 z w)) = N at *
 generalize fr .f32 x * fr .f32 y = P at *
 generalize fr .f32 z * fr .f32 w = Q at *
 generalize et .f32 = t at *
 have c1 : ab m ≤ ab (m - P) + ab P := by have := ab_add (m - P) P; rwa [show m - P + P = m by grind] at this
 have c2 : ab n ≤ ab (n - Q) + ab Q := by have := ab_add (n - Q) Q; rwa [show n - Q + Q = n by grind] at this
 have c3 := ab_sub m n
 have e : N - (X * Y - Z * W) = (N - (m - n)) + ((m - P) + (P - X * Y)) - ((n - Q) + (Q - Z * W)) := by grind
 rw [e]
 have d1 := ab_sub ((N - (m - n)) + ((m - P) + (P - X * Y))) ((n - Q) + (Q - Z * W))
 have d2 := ab_add (N - (m - n)) ((m - P) + (P - X * Y))
 have d3 := ab_add (m - P) (P - X * Y)
 have d4 := ab_add (n - Q) (Q - Z * W)
 clear dx dy dz dw e
 grind
theorem norm_e {a b c : V3} (ha : vR a) (hb : vR b) (hc : vR c) : ab (rx (normT a b c) - nX a b c) ≤ 1 / 25000 ∧ ab (ry (normT a b c) - nY a b c) ≤ 1 / 25000 ∧ ab (rz (normT a b c) - nZ a b c) ≤ 1 / 25000 ∧ vB 1140850688 (normT a b c) := by
 obtain ⟨a0, a1, a2, a3⟩ := ha
 obtain ⟨b0, b1, b2, b3⟩ := hb
 obtain ⟨c0, c1, c2, c3⟩ := hc
 have p := less_B b0 a0
 have q := less_B c0 a0
 have px := dif_e b0.1 a0.1 b1 a1; have py := dif_e b0.2.1 a0.2.1 b2 a2; have pz := dif_e b0.2.2 a0.2.2 b3 a3
 have qx := dif_e c0.1 a0.1 c1 a1; have qy := dif_e c0.2.1 a0.2.1 c2 a2; have qz := dif_e c0.2.2 a0.2.2 c3 a3
 exact ⟨crs_e p.2.1 q.2.2 p.2.2 q.2.1 py qz pz qy, crs_e p.2.2 q.1 p.1 q.2.2 pz qx px qz, crs_e p.1 q.2.1 p.2.1 q.1 px qy py qx, cross_B p q⟩
theorem long_e {n : V3} (hn : vB 1140850688 n) : 0 ≤ fr .f32 (longV n) ∧
  fr .f32 (longV n) * fr .f32 (longV n) ≤ (rx n * rx n + ry n * ry n + rz n * rz n) * (500001 / 500000) + 1 / 100000000000000000000 ∧
  rx n * rx n + ry n * ry n + rz n * rz n ≤ fr .f32 (longV n) * fr .f32 (longV n) * (500001 / 500000) + 1 / 100000000000000000000 ∧ rk .f32 (longV n) ≤ 1635778560 ∧ sgn single (longV n) = false := by
 have xB := dot_B hn
 have xs := dot_sgn hn
 have hX0 := fr_nn xs
 obtain ⟨x1, x2⟩ := dot_e hn
 have ht := et32
 have ht0 := Rat.le_of_lt (et_pos .f32)
 have s1 := sq_nn (rx n); have s2 := sq_nn (ry n); have s3 := sq_nn (rz n)
 have lB := root_mag (fin_of xB (by decide)) xs
 have ls : sgn single (rootP (dotV n n)) = false := by
  rw [(rootP_N (fin_of xB (by decide)) xs).1]
  exact word_sgn okS (Nat.le_of_lt (rootP_N (fin_of xB (by decide)) xs).2)
 rw [long_eq]
 have hS : 0 ≤ rx n * rx n + ry n * ry n + rz n * rz n := by grind
 generalize rx n * rx n + ry n * ry n + rz n * rz n = S at *
 rcases Nat.eq_zero_or_pos (rk .f32 (dotV n n)) with h0 | h0
 ·have e0 := fr_zero h0
  rw [rootP_zero h0 xs, fr_zero (show rk .f32 0 = 0 by decide)]
  rw [e0] at x1;refine ⟨by grind, by grind, by grind, by decide, by decide⟩
 ·obtain ⟨⟨r0, r1, r2⟩, _⟩ := root_E (fin_of xB (by decide)) xs h0
  refine ⟨r0, ?_, ?_, lB, ls⟩
  ·generalize fr .f32 (rootP (dotV n n)) * fr .f32 (rootP (dotV n n)) = Q at *
   grind
  ·generalize fr .f32 (rootP (dotV n n)) * fr .f32 (rootP (dotV n n)) = Q at *
   grind
theorem spl_x {w N N1 N2 D E n n1 n2 : Rat} (hw0 : 1 / 4 ≤ w) (hw1 : w ≤ 3 / 4) (h1 : N1 = w * N + D) (h2 : N2 = (1 - w) * N - D - E) (hD : ab D ≤ 1 / 90000) (hE : ab E ≤ 1 / 90000) (g : ab (n - N) ≤ 1 / 25000) (g1 : ab (n1 - N1) ≤ 1 / 25000) (g2 : ab (n2 - N2) ≤ 1 / 25000) :
  ab (n1 - w * n) ≤ 1 / 10000 ∧ ab (n2 - (1 - w) * n) ≤ 1 / 10000 := by
 have a1 : ab (w * (n - N)) ≤ 3 / 100000 := by
  have := ab_mul_le (show ab w ≤ 3 / 4 by rw [ab_pos (by grind)]; exact hw1) g
  grind
 have a2 : ab ((1 - w) * (n - N)) ≤ 3 / 100000 := by
  have := ab_mul_le (show ab (1 - w) ≤ 3 / 4 by rw [ab_pos (by grind)]; grind) g
  grind
 have e1 : n1 - w * n = (n1 - N1) + D - w * (n - N) := by grind
 have e2 : n2 - (1 - w) * n = (n2 - N2) - D - E - (1 - w) * (n - N) := by grind
 have b1 := ab_sub ((n1 - N1) + D) (w * (n - N))
 have b2 := ab_add (n1 - N1) D
 have b3 := ab_sub ((n2 - N2) - D - E) ((1 - w) * (n - N))
 have b4 := ab_sub ((n2 - N2) - D) E
 have b5 := ab_sub (n2 - N2) D
 rw [e1, e2]
 generalize ab (n1 - N1) = v1 at *
 generalize ab (n2 - N2) = v2 at *
 generalize ab D = v3 at *
 generalize ab E = v4 at *
 constructor <;> grind
theorem del_e {d1 d2 q1 q2 : Rat} (h1 : ab d1 ≤ 1 / 1200000) (h2 : ab d2 ≤ 1 / 1200000) (g1 : ab q1 ≤ 62 / 10) (g2 : ab q2 ≤ 62 / 10) : ab (d1 * q2 - d2 * q1) ≤ 1 / 90000 := by
 have a1 := ab_mul_le h1 g2
 have a2 := ab_mul_le h2 g1
 have a3 := ab_sub (d1 * q2) (d2 * q1)
 grind
theorem split_e {a b c e n : V3} {w : Rat} (hw0 : 1 / 4 ≤ w) (hw1 : w ≤ 3 / 4) (ha : vR a) (hb : vR b) (hc : vR c) (he : vR e)
  (d1 : ab (rx e - (rx a + w * (rx b - rx a))) ≤ 1 / 1200000) (d2 : ab (ry e - (ry a + w * (ry b - ry a))) ≤ 1 / 1200000) (d3 : ab (rz e - (rz a + w * (rz b - rz a))) ≤ 1 / 1200000)
  (n1 : ab (rx n - nX a b c) ≤ 1 / 25000) (n2 : ab (ry n - nY a b c) ≤ 1 / 25000) (n3 : ab (rz n - nZ a b c) ≤ 1 / 25000) (nB : vB 1140850688 n) :
  fr .f32 (longV (normT a e c)) + fr .f32 (longV (normT e b c)) ≤ fr .f32 (longV n) * (250001 / 250000) + 8 / 10000 ∧
  fr .f32 (longV n) ≤ (fr .f32 (longV (normT a e c)) + fr .f32 (longV (normT e b c))) * (250001 / 250000) + 8 / 10000 := by
 obtain ⟨l1, l2, l3, lB⟩ := norm_e ha he hc
 obtain ⟨m1, m2, m3, mB⟩ := norm_e he hb hc
 have dd : ∀ {x y : Rat}, ab x ≤ 31 / 10 → ab y ≤ 31 / 10 → ab (x - y) ≤ 62 / 10 := fun {x y} h1 h2 => by
  have := ab_sub x y
  grind
 have qx := dd hc.2.1 ha.2.1; have qy := dd hc.2.2.1 ha.2.2.1; have qz := dd hc.2.2.2 ha.2.2.2
 have px := dd hb.2.1 ha.2.1; have py := dd hb.2.2.1 ha.2.2.1; have pz := dd hb.2.2.2 ha.2.2.2
 obtain ⟨x1, x2⟩ := spl_x (N := nX a b c) (N1 := nX a e c) (N2 := nX e b c) (n := rx n) hw0 hw1
  (D := (ry e - (ry a + w * (ry b - ry a))) * (rz c - rz a) - (rz e - (rz a + w * (rz b - rz a))) * (ry c - ry a))
  (E := (rz e - (rz a + w * (rz b - rz a))) * (ry b - ry a) - (ry e - (ry a + w * (ry b - ry a))) * (rz b - rz a))
  (by unfold nX; grind) (by unfold nX; grind) (del_e d2 d3 qy qz) (del_e d3 d2 pz py) n1 l1 m1
 obtain ⟨y1, y2⟩ := spl_x (N := nY a b c) (N1 := nY a e c) (N2 := nY e b c) (n := ry n) hw0 hw1
  (D := (rz e - (rz a + w * (rz b - rz a))) * (rx c - rx a) - (rx e - (rx a + w * (rx b - rx a))) * (rz c - rz a))
  (E := (rx e - (rx a + w * (rx b - rx a))) * (rz b - rz a) - (rz e - (rz a + w * (rz b - rz a))) * (rx b - rx a))
  (by unfold nY; grind) (by unfold nY; grind) (del_e d3 d1 qz qx) (del_e d1 d3 px pz) n2 l2 m2
 obtain ⟨z1, z2⟩ := spl_x (N := nZ a b c) (N1 := nZ a e c) (N2 := nZ e b c) (n := rz n) hw0 hw1
  (D := (rx e - (rx a + w * (rx b - rx a))) * (ry c - ry a) - (ry e - (ry a + w * (ry b - ry a))) * (rx c - rx a))
  (E := (ry e - (ry a + w * (ry b - ry a))) * (rx b - rx a) - (rx e - (rx a + w * (rx b - rx a))) * (ry b - ry a))
  (by unfold nZ; grind) (by unfold nZ; grind) (del_e d1 d2 qx qy) (del_e d2 d1 py px) n3 l3 m3
 obtain ⟨L0, L1, L2, _⟩ := long_e nB
 obtain ⟨A0, A1, A2, _⟩ := long_e lB
 obtain ⟨B0, B1, B2, _⟩ := long_e mB
 generalize fr .f32 (longV n) = L at *
 generalize fr .f32 (longV (normT a e c)) = A at *
 generalize fr .f32 (longV (normT e b c)) = B at *
 have sc : ∀ v : Rat, 0 ≤ v → v ≤ 1 → (v * rx n) * (v * rx n) + (v * ry n) * (v * ry n) + (v * rz n) * (v * rz n) ≤ (v * L) * (v * L) * (500001 / 500000) + 1 / 100000000000000000000 ∧ (v * L) * (v * L) ≤ ((v * rx n) * (v * rx n) + (v * ry n) * (v * ry n) + (v * rz n) * (v * rz n)) * (500001 / 500000) + 1 / 100000000000000000000 := fun v h0 h1 => by
  have vv := mul_nn h0 h0;have v1 : v * v ≤ 1 := by
   have := mul_le_r h0 h1
   grind
  have k1 := Rat.mul_le_mul_of_nonneg_left L1 vv;have k2 := Rat.mul_le_mul_of_nonneg_left L2 vv
  constructor <;> grind
 have sw : ∀ x y : Rat, ab (x - y) = ab (y - x) := fun x y => by rw [← ab_neg, show -(x - y) = y - x by grind]
 have hv0 : 0 ≤ 1 - w := by grind
 have hw2 : 0 ≤ w := by grind
 have hw3 : w ≤ 1 := by grind
 have r1 := len_cmp (mul_nn hw2 L0) (sc w hw2 hw3).1 A1 x1 y1 z1
 have r2 := len_cmp (mul_nn hv0 L0) (sc (1 - w) hv0 (by grind)).1 B1 x2 y2 z2
 have r3 := len_cmp A0 A2 (sc w hw2 hw3).2 (by rw [sw]; exact x1) (by rw [sw]; exact y1) (by rw [sw]; exact z1)
 have r4 := len_cmp B0 B2 (sc (1 - w) hv0 (by grind)).2 (by rw [sw]; exact x2) (by rw [sw]; exact y2) (by rw [sw]; exact z2)
 clear sc sw
 constructor <;> grind
end Vs
namespace Vs
open Go Go.Sort Ieee
def hlf (n : V3) : Nat := fdiv .f32 (longV n) 1073741824
def arT (vs : List V3) (t : List Int) : Nat := match corner vs t with | some p => hlf (normT p.1 p.2.1 p.2.2) | none => 0
def areaN (vs : List V3) (ts : List (List Int)) : Nat → Nat
 | 0 => 0
 | i + 1 => fadd .f32 (areaN vs ts i) (arT vs (ts.getD i []))
noncomputable def F576 : List D → Option (List D)
 | [a, b] => (dV a).bind fun vs => (dT b).bind fun ts => if szM vs ts ≤ 1048576 then some (if validP vs.length ts = true then [.flt (areaN vs ts ts.length), .bool true] else [.flt 0, .bool false]) else none
 | _ => none
theorem F576_m {vs : List V3} {ts : List (List Int)} (h : szM vs ts ≤ 1048576) : F576 [vl vs, tl ts] = some (if validP vs.length ts = true then [.flt (areaN vs ts ts.length), .bool true] else [.flt 0, .bool false]) := by
 simp only [F576, dV_vl, dT_tl, Option.bind_some]
 rw [if_pos h]
noncomputable def F231 : List D → Option (List D)
 | [.flt x, .flt y] => (gev none (.fmax .f64) [.flt (fsub .f64 x y), .flt (fsub .f64 y x)]).map fun d => [d]
 | _ => none
theorem fmax_or {a b : Nat} (ha : rk .f64 a < inf .f64) (hb : rk .f64 b < inf .f64) : ∃ g, gev none (.fmax .f64) [.flt a, .flt b] = some (.flt g) ∧ (g = a ∨ g = b) := by
 have ho := order_R (k := .f64) ha hb
 simp only [gev, gok, if_true, Prim.ev]
 rw [ho]
 cases compare (sv .f64 a) (sv .f64 b) with
 | lt => exact ⟨b, rfl, .inr rfl⟩
 | gt => exact ⟨a, rfl, .inl rfl⟩
 | eq =>
  refine ⟨_, rfl, ?_⟩;split
  ·exact .inr rfl
  ·exact .inl rfl
def T231 : T :=
(oo (.far .sub .f64) [0, 1] <|
oo (.far .sub .f64) [1, 0] <|
oo (.fmax .f64) [2, 3] <|
.out 0 [4])
def S231 (_G : Told) (_fuel : Nat) (x0 x1 : D) : Option (Nat × List D) :=
 (gev none (.far .sub .f64) [x0, x1]).bind fun x2 =>
 (gev none (.far .sub .f64) [x1, x0]).bind fun x3 =>
 (gev none (.fmax .f64) [x2, x3]).bind fun x4 =>
 some (0, [x4])
theorem eq231 {G fuel} (x0 x1) : run G fuel T231 [x0, x1] = S231 G fuel x0 x1 := by rw [run_eq]; kernel_rfl
def T576 : T :=
(cc 150 [0, 1] 1 <|
oo .bnot [2] <|
.ite 3
 (.out 0 [kF 0, kN])
 (oo .len [1] <|
 .join 3
  (.loop [kF 0, kI 0]
   (oo (.icm .lss) [6, 4] <|
   .ite 7
    (oo .idx [1, 6] <|
    cc 160 [0, 1, 8] 3 <|
    cc 15 [9, 10, 11] 1 <|
    oo (.far .quo .f32) [12, kF 1073741824] <|
    oo (.far .add .f32) [5, 13] <|
    oo (.iar .add .i64) [6, kI 1] <|
    .out 0 [14, 15])
    (.out 1 [5, 6, 7])))
 (.out 0 [5, kT])))
def S576L0 (G : Told) (x0 : D) (x1 : D) (x4 : D) : List D → Option (Nat × List D) := fun e5 =>
    (gev none (.icm .lss) [e5.getD 1 .undef, x4]).bind fun x7 =>
    tif x7 (
     (gev none .idx [x1, e5.getD 1 .undef]).bind fun x8 =>
     (gcall G none 160 [x0, x1, x8] 3).bind fun e9 =>
     (gcall G none 15 [e9.getD 0 .undef, e9.getD 1 .undef, e9.getD 2 .undef] 1).bind fun e12 =>
     (gev none (.far .quo .f32) [e12.getD 0 .undef, .flt 1073741824]).bind fun x13 =>
     (gev none (.far .add .f32) [e5.getD 0 .undef, x13]).bind fun x14 =>
     (gev none (.iar .add .i64) [e5.getD 1 .undef, .int 1]).bind fun x15 =>
     some (0, [x14, x15])) (
     some (1, [e5.getD 0 .undef, e5.getD 1 .undef, x7]))
def S576 (G : Told) (fuel : Nat) (x0 x1 : D) : Option (Nat × List D) :=
 (gcall G none 150 [x0, x1] 1).bind fun e2 =>
 (gev none .bnot [e2.getD 0 .undef]).bind fun x3 =>
 tif x3 (
  some (0, [.flt 0, .bool false])) (
  (gev none .len [x1]).bind fun x4 =>
  tjoin 3 (
   iter (tbody 2 (S576L0 G x0 x1 x4)) fuel [.flt 0, .int 0]) fun e5 =>
  some (0, [e5.getD 0 .undef, .bool true]))
theorem eq576 {G fuel} (x0 x1) : run G fuel T576 [x0, x1] = S576 G fuel x0 x1 := by rw [run_eq]; kernel_rfl
theorem run231 {G : Told} : Runs G F231 T231 := by
 intro ds rs h
 unfold F231 at h
 split at h
 case h_2 => cases h
 rename_i x y
 obtain ⟨d, hd, h⟩ := Option.map_eq_some_iff.1 h
 subst h
 refine ⟨0, ?_⟩
 rw [eq231]
 unfold S231
 refine st_some (show gev none (.far .sub .f64) [.flt x, .flt y] = some (.flt (fsub .f64 x y)) from rfl) ?_
 refine st_some (show gev none (.far .sub .f64) [.flt y, .flt x] = some (.flt (fsub .f64 y x)) from rfl) ?_
 exact st_some hd rfl
theorem p_fquo {x y : Nat} : gev none (.far .quo .f32) [.flt x, .flt y] = some (.flt (fdiv .f32 x y)) := rfl
theorem F15_n (v : V3) : F15 [.flt v.x, .flt v.y, .flt v.z] = some [.flt (longV v)] := rfl
theorem valid_128 {n : Nat} {ts : List (List Int)} (h : validP n ts = true) : ts.length ≤ 128 := by
 simp only [validP, Bool.and_eq_true, decide_eq_true_eq] at h
 exact h.1.2
attribute [local irreducible] vl il tl totL szM validP tif tjoin IntKind.wrap F150 F160 F15 longV normT

theorem run576 {G : Told} (g150 : G 150 = F150) (g160 : G 160 = F160) (g15 : G 15 = F15) : Runs G F576 T576 := by
 intro ds rs h
 unfold F576 at h
 split at h
 case h_2 => cases h
 rename_i a b
 obtain ⟨vs, ha, h1⟩ := Option.bind_eq_some_iff.1 h
 obtain ⟨ts, hb, h2⟩ := Option.bind_eq_some_iff.1 h1
 clear h h1
 rw [dV_inv ha, dT_inv hb]
 clear ha hb
 split at h2
 case isFalse => cases h2
 rename_i hz
 simp only [Option.some.injEq] at h2
 subst h2
 have c1 := F150_m hz
 refine ⟨ts.length + 1, ?_⟩
 rw [eq576]
 unfold S576
 cases hv : validP vs.length ts
 ·rw [hv] at c1
  refine st_some (gcall_on g150 rfl c1 rfl) ?_;refine st_some p_bnot ?_;exact st_ift rfl
 rw [hv] at c1
 have hl := valid_128 hv
 have hloop : iter (tbody 2 (S576L0 G (vl vs) (tl ts) (.int (ts.length : Int)))) (ts.length + 1) [.flt 0, .int 0] = some (0, [.flt (areaN vs ts ts.length), .int (ts.length : Int), .bool false]) := by
  have h1 := iter_upto (body := tbody 2 (S576L0 G (vl vs) (tl ts) (.int (ts.length : Int)))) (n := ts.length) (l := 0) (ds := [.flt (areaN vs ts ts.length), .int (ts.length : Int), .bool false])
   (fun i => [.flt (areaN vs ts i), .int (i : Int)]) ?_ ?_
  ·simpa [areaN] using h1
  ·intro i hi
   obtain ⟨a, b, c, hc⟩ := corner_ok hv hi;have hf : F160 [vl vs, tl ts, il ts[i]] = some (nds (normT a b c)) := by
    have e : F160 [vl vs, tl ts, il ts[i]] = (dV (vl vs)).bind fun vs => (dI (il ts[i])).bind fun t => (corner vs t).map fun p => nds (normT p.1 p.2.1 p.2.2) := by with_unfolding_all rfl
    rw [e, dV_vl, dI_il];simp only [Option.bind_some, hc, Option.map_some]
   have hs : areaN vs ts (i + 1) = fadd .f32 (areaN vs ts i) (fdiv .f32 (longV (normT a b c)) 1073741824) := by show fadd .f32 (areaN vs ts i) (arT vs (ts.getD i [])) = _;rw [getD_lt hi];unfold arT;rw [hc];rfl
   refine tb rfl ?_;unfold S576L0;refine st_some (show gev none (.icm .lss) [.int (i : Int), .int (ts.length : Int)] = some (.bool true) by rw [p_lss, decide_eq_true (by omega)]) ?_
   refine st_ift ?_;refine st_some (idx_tl hi) ?_;refine st_some (gcall_on g160 rfl hf rfl) ?_;refine st_some (gcall_on g15 rfl (F15_n (normT a b c)) rfl) ?_;refine st_some p_fquo ?_;refine st_some p_fadd ?_;rw [hs];exact st_some (add1n (by omega)) rfl
  ·refine tb rfl ?_
   unfold S576L0;refine st_some (show gev none (.icm .lss) [.int (ts.length : Int), .int (ts.length : Int)] = some (.bool false) by rw [p_lss, decide_eq_false (by omega)]) ?_
   exact st_iff rfl
 refine st_some (gcall_on g150 rfl c1 rfl) ?_
 refine st_some p_bnot ?_
 refine st_iff ?_
 refine st_some len_tl ?_
 exact st_join hloop rfl rfl
end Vs
namespace Vs
open Go Go.Sort Ieee
theorem two_fr : fr .f32 1073741824 = 2 := by
 have h1 : Vk .f32 (rk .f32 1073741824) = 2 * 2 ^ 149 := by decide +kernel
 have h2 : fr .f32 1073741824 * (dn .f32 : Rat) = ((2 * 2 ^ 149 : Nat) : Rat) := by
  rcases fr_cases (k := .f32) 1073741824 with ⟨_, e⟩ | ⟨e, _⟩
  ·rw [e, h1]
  ·exact absurd e (by decide)
 have h3 : dn .f32 = 2 ^ 149 := by decide +kernel
 have hd := dn_pos .f32
 rw [h3, Rat.natCast_mul] at h2
 rw [h3] at hd
 exact mul_cancel hd h2
theorem half_e {n : V3} (hn : vB 1140850688 n) : 0 ≤ fr .f32 (hlf n) ∧ fr .f32 (hlf n) ≤ fr .f32 (longV n) / 2 * (1000001 / 1000000) + 1 / 10000000000 ∧ fr .f32 (longV n) / 2 ≤ fr .f32 (hlf n) * (1000001 / 1000000) + 1 / 10000000000 ∧
  rk .f32 (hlf n) ≤ 1635778560 ∧ sgn single (hlf n) = false := by
 obtain ⟨l0, _, _, lB, ls⟩ := long_e hn
 have hf := fin_of lB (show (1635778560 : Nat) < inf .f32 by decide)
 have h2 : rk .f32 1073741824 < inf .f32 := by decide
 have h20 : rk .f32 1073741824 ≠ 0 := by decide
 obtain ⟨r, e, hr⟩ := fdiv_R hf h2 h20
 have hle : r ≤ rk .f32 (longV n) := hr.2.1 _ (Nat.le_of_lt hf) (Nat.mul_le_mul_left _ (by decide +kernel))
 have hk : rk .f32 (hlf n) = r := by unfold hlf;rw [e, rk_word hr.1]
 have hs : sgn single (hlf n) = false := by
  unfold hlf;rw [e, show sgn FloatKind.f32.format (longV n) = false from ls, show sgn FloatKind.f32.format 1073741824 = false by decide]
  exact sgn_word (k := .f32) hr.1
 have hB : rk .f32 (hlf n) ≤ 1635778560 := by rw [hk]; exact Nat.le_trans hle lB
 have hE := div_E (k := .f32) hf h2 h20 (fin_of hB (by decide)) (Q := fr .f32 (longV n) / 2) (by rw [two_fr]; grind)
 rw [ab_pos (by grind), ep32] at hE
 have ht := et32
 have ht0 := Rat.le_of_lt (et_pos .f32)
 have h0 := fr_nn hs
 obtain ⟨a1, a2⟩ := hE
 have e1 : fr .f32 (fdiv .f32 (longV n) 1073741824) = fr .f32 (hlf n) := rfl
 rw [e1] at a1 a2
 generalize fr .f32 (hlf n) = h at *
 generalize fr .f32 (longV n) = L at *
 refine ⟨h0, by grind, by grind, hB, hs⟩
def arR (vs : List V3) (t : List Int) : Rat := fr .f32 (arT vs t)
def arS (f : List Int → Rat) : List (List Int) → Rat
 | [] => 0
 | t :: l => f t + arS f l
theorem arS_app (f : List Int → Rat) (t : List Int) : ∀ l, arS f (l ++ [t]) = arS f l + f t
 | [] => by simp only [List.nil_append, arS]; grind
 | s :: l => by
  simp only [List.cons_append, arS];rw [arS_app f t l]
  grind
theorem arS_set (f : List Int → Rat) (t : List Int) : ∀ (l : List (List Int)) (j : Nat), j < l.length → arS f (l.set j t) = arS f l - f (l.getD j []) + f t
 | [], j, h => absurd h (Nat.not_lt_zero _)
 | s :: l, 0, _ => by
  simp only [List.set_cons_zero, arS, List.getD_cons_zero]
  grind
 | s :: l, j + 1, h => by
  simp only [List.set_cons_succ, arS, List.getD_cons_succ];rw [arS_set f t l j (by simpa using h)]
  grind
theorem arS_nn {f : List Int → Rat} : ∀ {l : List (List Int)}, (∀ t ∈ l, 0 ≤ f t) → 0 ≤ arS f l
 | [], _ => Rat.le_refl
 | s :: l, h => by
  have h1 := h s List.mem_cons_self;have h2 := arS_nn (f := f) (l := l) fun t ht => h t (List.mem_cons_of_mem _ ht)
  simp only [arS]
  grind
theorem arS_le {f : List Int → Rat} : ∀ {l : List (List Int)}, (∀ t ∈ l, 0 ≤ f t) → ∀ {j : Nat}, j < l.length → f (l.getD j []) ≤ arS f l
 | [], _, _, h => absurd h (Nat.not_lt_zero _)
 | s :: l, h, 0, _ => by
  have h2 := arS_nn (f := f) (l := l) fun t ht => h t (List.mem_cons_of_mem _ ht)
  simp only [arS, List.getD_cons_zero]
  grind
 | s :: l, h, j + 1, hj => by
  have h1 := h s List.mem_cons_self;have h2 := arS_le (f := f) (l := l) (fun t ht => h t (List.mem_cons_of_mem _ ht)) (j := j) (by simpa using hj)
  simp only [arS, List.getD_cons_succ]
  grind
theorem q_sum : ∀ i : Fin 50, (1635778560 + i.1 * 8388608 < inf .f32 ∧ 1635778560 < inf .f32 ∧ 1635778560 + (i.1 + 1) * 8388608 ≤ inf .f32 ∧ Vk .f32 (1635778560 + i.1 * 8388608) + Vk .f32 1635778560 ≤ Vk .f32 (1635778560 + (i.1 + 1) * 8388608)) := by decide +kernel
theorem sum_step {S h R i e : Rat} (h1 : near (1 / 8388608 * ab (S + h)) e (S + h)) (h2 : near (i * (1 / 8000000) * R) S R) (hS : 0 ≤ S) (hh : 0 ≤ h) (hR : 0 ≤ R) (hi0 : 0 ≤ i) (hi : i ≤ 50) : near ((i + 1) * (1 / 8000000) * (R + h)) e (R + h) := by
 rw [ab_pos (by grind)] at h1
 obtain ⟨a1, a2⟩ := h1
 obtain ⟨b1, b2⟩ := h2
 have c1 : i * R ≤ 50 * R := mul_le_r hR hi
 have c2 : 0 ≤ i * h := mul_nn hi0 hh
 have c3 : 0 ≤ i * R := mul_nn hi0 hR
 have e1 : i * (1 / 8000000) * R = i * R * (1 / 8000000) := by grind
 have e2 : (i + 1) * (1 / 8000000) * (R + h) = i * R * (1 / 8000000) + i * h * (1 / 8000000) + (R + h) * (1 / 8000000) := by grind
 rw [e2]
 rw [e1] at b1 b2
 clear e1 e2
 generalize i * R = p at *
 generalize i * h = q at *
 constructor <;> grind
theorem area_e {vs : List V3} {ts : List (List Int)} (h : ∀ t ∈ ts, rk .f32 (arT vs t) ≤ 1635778560 ∧ sgn single (arT vs t) = false) : ∀ i, i ≤ ts.length → i ≤ 49 →
  near ((i : Rat) * (1 / 8000000) * arS (arR vs) (ts.take i)) (fr .f32 (areaN vs ts i)) (arS (arR vs) (ts.take i)) ∧ rk .f32 (areaN vs ts i) ≤ 1635778560 + i * 8388608 ∧ sgn single (areaN vs ts i) = false
 | 0, _, _ => by
  refine ⟨?_, by show rk .f32 0 ≤ _; decide, by show sgn single 0 = false; decide⟩
  rw [show areaN vs ts 0 = 0 from rfl, fr_zero (show rk .f32 0 = 0 by decide), List.take_zero]
  unfold near arS
  constructor <;> grind
 | i + 1, h1, h2 => by
  obtain ⟨a1, a2, a3⟩ := area_e h i (by omega) (by omega)
  have hm : ts.getD i [] ∈ ts := by rw [getD_lt (by omega)]; exact List.getElem_mem (by omega)
  obtain ⟨t1, t2⟩ := h _ hm;have q := q_sum ⟨i, by omega⟩
  have hz := mg_add a2 t1 q;have hf1 := fin_of a2 q.1;have hf2 := fin_of t1 q.2.1;have q2 := q_sum ⟨i + 1, by omega⟩
  have hE := add_e hf1 hf2 (fin_of hz q2.1);have hn : ∀ t ∈ ts.take i, 0 ≤ arR vs t := fun t ht => fr_nn (h t (List.mem_of_mem_take ht)).2
  have hS := arS_nn hn;have hst := sum_step hE a1 (fr_nn a3) (fr_nn t2) hS (show (0 : Rat) ≤ (i : Rat) by exact_mod_cast Nat.zero_le i) (show (i : Rat) ≤ 50 by exact_mod_cast (show i ≤ 50 by omega))
  have e : ts.take (i + 1) = ts.take i ++ [ts.getD i []] := by
   rw [getD_lt (by omega), List.take_add_one, List.getElem?_eq_getElem (by omega)]
   rfl
  rw [e, arS_app, show areaN vs ts (i + 1) = fadd .f32 (areaN vs ts i) (arT vs (ts.getD i [])) from rfl]
  refine ⟨?_, hz, add_sgn hf1 hf2 a3 t2⟩;have e2 : ((i + 1 : Nat) : Rat) = (i : Rat) + 1 := by push_cast; rfl
  rw [e2];exact hst
theorem vR_of {v : V3} (h : vB 1077936128 v) : vR v ∧ ab (rx v) ≤ 3 ∧ ab (ry v) ≤ 3 ∧ ab (rz v) ≤ 3 := by
 have key : ∀ {x : Nat}, rk .f32 x ≤ 1077936128 → ab (fr .f32 x) ≤ 3 := fun {x} hx => by
  have h1 : Vk .f32 (rk .f32 x) ≤ 3 * 2 ^ 149 := by
   have := V_mono single hx;rw [show V single 1077936128 = 3 * 2 ^ 149 by decide +kernel] at this
   exact this
  have h2 : ((Vk .f32 (rk .f32 x) : Nat) : Rat) ≤ ((3 * 2 ^ 149 : Nat) : Rat) := by exact_mod_cast h1
  rw [← ab_fr, Rat.natCast_mul] at h2;have h3 : dn .f32 = 2 ^ 149 := by decide +kernel
  have hd := dn_pos .f32;rw [h3] at h2 hd;exact le_of_mul hd h2
 have k1 := key h.1; have k2 := key h.2.1; have k3 := key h.2.2
 have g : ∀ {q : Rat}, q ≤ 3 → q ≤ 31 / 10 := fun h => by grind
 exact ⟨⟨⟨Nat.le_trans h.1 (by decide), Nat.le_trans h.2.1 (by decide), Nat.le_trans h.2.2 (by decide)⟩, g k1, g k2, g k3⟩, k1, k2, k3⟩
theorem arT_tri {vs : List V3} {x y z : Int} (hx : inr vs.length x = true) (hy : inr vs.length y = true) (hz : inr vs.length z = true) : arT vs [x, y, z] = hlf (normT (plc vs x) (plc vs y) (plc vs z)) := by
 have : corner vs [x, y, z] = some (plc vs x, plc vs y, plc vs z) := by
  show (if (inr vs.length x && inr vs.length y && inr vs.length z) = true then some (plc vs x, plc vs y, plc vs z) else none) = _
  rw [hx, hy, hz];rfl
 unfold arT
 rw [this]
theorem inr_of {n x : Int} (h : 0 ≤ x ∧ x < n) : inr n x = true := by
 unfold inr
 simp only [Bool.and_eq_true, decide_eq_true_eq]
 omega
theorem plc_R {vs : List V3} (h : ∀ v ∈ vs, vR v) {x : Int} (hx : 0 ≤ x ∧ x < (vs.length : Int)) : vR (plc vs x) := by
 unfold plc
 rw [getD_lt (by omega)]
 exact h _ (List.getElem_mem _)
theorem tri_fin {vs : List V3} {ts : List (List Int)} (h : ∀ v ∈ vs, vR v) (hT : TriOk vs.length ts) : ∀ t ∈ ts, rk .f32 (arT vs t) ≤ 1635778560 ∧ sgn single (arT vs t) = false := fun t ht => by
 obtain ⟨x, y, z, rfl, _, _, _, hx, hy, hz⟩ := hT t ht
 rw [arT_tri (inr_of hx) (inr_of hy) (inr_of hz)]
 obtain ⟨_, _, _, nB⟩ := norm_e (plc_R h hx) (plc_R h hy) (plc_R h hz)
 obtain ⟨_, _, _, h4, h5⟩ := half_e nB
 exact ⟨h4, h5⟩
structure OnE (vs : List V3) (a b c : Int) (w : Rat) : Prop where
 w0 : 1 / 4 ≤ w
 w1 : w ≤ 3 / 4
 dx : ab (rx (plc vs c) - (rx (plc vs a) + w * (rx (plc vs b) - rx (plc vs a)))) ≤ 1 / 1200000
 dy : ab (ry (plc vs c) - (ry (plc vs a) + w * (ry (plc vs b) - ry (plc vs a)))) ≤ 1 / 1200000
 dz : ab (rz (plc vs c) - (rz (plc vs a) + w * (rz (plc vs b) - rz (plc vs a)))) ≤ 1 / 1200000
theorem half_sum {h h1 h2 L L1 L2 : Rat} (a0 : 0 ≤ h) (a1 : h ≤ L / 2 * (1000001 / 1000000) + 1 / 10000000000) (a2 : L / 2 ≤ h * (1000001 / 1000000) + 1 / 10000000000)
  (b1 : h1 ≤ L1 / 2 * (1000001 / 1000000) + 1 / 10000000000) (b2 : L1 / 2 ≤ h1 * (1000001 / 1000000) + 1 / 10000000000)
  (c1 : h2 ≤ L2 / 2 * (1000001 / 1000000) + 1 / 10000000000) (c2 : L2 / 2 ≤ h2 * (1000001 / 1000000) + 1 / 10000000000)
  (d1 : L1 + L2 ≤ L * (250001 / 250000) + 8 / 10000) (d2 : L ≤ (L1 + L2) * (250001 / 250000) + 8 / 10000) : near (h / 100000 + 41 / 100000) (h1 + h2) h := by
 constructor <;> grind
theorem tri_split {vs : List V3} (h : ∀ v ∈ vs, vR v) {x y z a b c : Int} {w : Rat} (hx : 0 ≤ x ∧ x < (vs.length : Int)) (hy : 0 ≤ y ∧ y < (vs.length : Int)) (hz : 0 ≤ z ∧ z < (vs.length : Int)) (hc : 0 ≤ c ∧ c < (vs.length : Int)) (hg : goesP [x, y, z] a b = true) (ho : OnE vs a b c w) :
  near (arR vs [x, y, z] / 100000 + 41 / 100000) (arR vs [a, c, thirdP [x, y, z] a b] + arR vs [c, b, thirdP [x, y, z] a b]) (arR vs [x, y, z]) := by
 obtain ⟨n1, n2, n3, nB⟩ := norm_e (plc_R h hx) (plc_R h hy) (plc_R h hz)
 have key : ∀ r : Int, (0 ≤ a ∧ a < (vs.length : Int)) → (0 ≤ b ∧ b < (vs.length : Int)) → (0 ≤ r ∧ r < (vs.length : Int)) →
   nX (plc vs x) (plc vs y) (plc vs z) = nX (plc vs a) (plc vs b) (plc vs r) → nY (plc vs x) (plc vs y) (plc vs z) = nY (plc vs a) (plc vs b) (plc vs r) → nZ (plc vs x) (plc vs y) (plc vs z) = nZ (plc vs a) (plc vs b) (plc vs r) →
   near (arR vs [x, y, z] / 100000 + 41 / 100000) (arR vs [a, c, r] + arR vs [c, b, r]) (arR vs [x, y, z]) := fun r ha hb hr e1 e2 e3 => by
  rw [e1] at n1;rw [e2] at n2;rw [e3] at n3;obtain ⟨s1, s2⟩ := split_e ho.w0 ho.w1 (plc_R h ha) (plc_R h hb) (plc_R h hr) (plc_R h hc) ho.dx ho.dy ho.dz n1 n2 n3 nB;obtain ⟨_, _, _, nB1⟩ := norm_e (plc_R h ha) (plc_R h hc) (plc_R h hr);obtain ⟨_, _, _, nB2⟩ := norm_e (plc_R h hc) (plc_R h hb) (plc_R h hr);obtain ⟨u0, u1, u2, _⟩ := half_e nB;obtain ⟨_, v1, v2, _⟩ := half_e nB1;obtain ⟨_, w1, w2, _⟩ := half_e nB2;unfold arR;rw [arT_tri (inr_of hx) (inr_of hy) (inr_of hz), arT_tri (inr_of ha) (inr_of hc) (inr_of hr), arT_tri (inr_of hc) (inr_of hb) (inr_of hr)];exact half_sum u0 u1 u2 v1 v2 w1 w2 s1 s2
 simp only [goesP, List.getD_cons_zero, List.getD_cons_succ, beq_iff_eq, Bool.or_eq_true, Bool.and_eq_true] at hg
 have hg' : (x = a ∧ y = b) ∨ (y = a ∧ z = b) ∨ (z = a ∧ x = b) := by omega
 rcases hg' with ⟨rfl, rfl⟩ | ⟨rfl, rfl⟩ | ⟨rfl, rfl⟩
 ·rw [show thirdP [x, y, z] x y = z by show x + y + z - x - y = z; omega]
  exact key z hx hy hz rfl rfl rfl
 ·rw [show thirdP [x, y, z] y z = x by show x + y + z - y - z = x; omega]
  exact key x hy hz hx (by unfold nX; grind) (by unfold nY; grind) (by unfold nZ; grind)
 ·rw [show thirdP [x, y, z] z x = y by show x + y + z - z - x = y; omega]
  exact key y hz hx hy (by unfold nX; grind) (by unfold nY; grind) (by unfold nZ; grind)
end Vs
namespace Vs
open Go Go.Sort Ieee
theorem quarter_fr : fr .f32 1048576000 = 1 / 4 := by
 have h1 : Vk .f32 (rk .f32 1048576000) = 2 ^ 147 := by decide +kernel
 have h2 : fr .f32 1048576000 * (dn .f32 : Rat) = ((2 ^ 147 : Nat) : Rat) := by
  rcases fr_cases (k := .f32) 1048576000 with ⟨_, e⟩ | ⟨e, _⟩
  ·rw [e, h1]
  ·exact absurd e (by decide)
 have h3 : dn .f32 = 2 ^ 147 * 4 := by decide +kernel
 have hp : (0 : Rat) < ((2 ^ 147 : Nat) : Rat) := Rat.natCast_pos.2 (Nat.two_pow_pos _)
 rw [h3, Rat.natCast_mul] at h2
 generalize ((2 ^ 147 : Nat) : Rat) = w at *
 have e4 : ((4 : Nat) : Rat) = 4 := rfl
 rw [e4] at h2
 refine mul_cancel hp ?_
 grind
theorem mid_cut {X Y d m e t : Rat} (hX : ab X ≤ 3) (hY : ab Y ≤ 3) (ht : t ≤ 1 / 1393796574908163946345982392040522594123776) (h1 : ab (d - (Y - X)) ≤ 1 / 8388608 * ab (Y - X)) (h2 : ab (m - d * (1 / 4)) ≤ 1 / 8388608 * ab (d * (1 / 4)) + t) (h3 : ab (e - (X + m)) ≤ 1 / 8388608 * ab (X + m)) :
  ab (e - (X + 1 / 4 * (Y - X))) ≤ 1 / 1200000 ∧ ab e ≤ 31 / 10 := by
 have a1 := ab_sub Y X
 have a2 : ab (d * (1 / 4)) ≤ 151 / 100 := by
  have b1 := ab_add (d - (Y - X)) (Y - X);rw [show d - (Y - X) + (Y - X) = d by grind] at b1
  rw [ab_mul, ab_pos (show (0 : Rat) ≤ 1 / 4 by grind)]
  grind
 have a3 : ab (X + 1 / 4 * (Y - X)) ≤ 3 := by
  have e1 : X + 1 / 4 * (Y - X) = 3 / 4 * X + 1 / 4 * Y := by grind
  have b1 := ab_add (3 / 4 * X) (1 / 4 * Y);rw [ab_mul, ab_mul, ab_pos (show (0 : Rat) ≤ 3 / 4 by grind), ab_pos (show (0 : Rat) ≤ 1 / 4 by grind)] at b1
  rw [e1]
  grind
 have a4 : ab (m - 1 / 4 * (Y - X)) ≤ 1 / 8388608 * (302 / 100) := by
  have e1 : m - 1 / 4 * (Y - X) = (m - d * (1 / 4)) + 1 / 4 * (d - (Y - X)) := by grind
  have b1 := ab_add (m - d * (1 / 4)) (1 / 4 * (d - (Y - X)));rw [ab_mul (1 / 4), ab_pos (show (0 : Rat) ≤ 1 / 4 by grind)] at b1
  rw [e1]
  grind
 have a5 : ab (X + m) ≤ 3001 / 1000 := by
  have b1 := ab_add (X + 1 / 4 * (Y - X)) (m - 1 / 4 * (Y - X));rw [show X + 1 / 4 * (Y - X) + (m - 1 / 4 * (Y - X)) = X + m by grind] at b1
  grind
 have b1 := ab_add (e - (X + m)) (m - 1 / 4 * (Y - X))
 rw [show e - (X + m) + (m - 1 / 4 * (Y - X)) = e - (X + 1 / 4 * (Y - X)) by grind] at b1
 have b2 := ab_add (e - (X + m)) (X + m)
 rw [show e - (X + m) + (X + m) = e by grind] at b2
 constructor <;> grind
theorem q3a : (1077936128 : Nat) < inf .f32 ∧ 1077936128 < inf .f32 ∧ 1086324736 ≤ inf .f32 ∧ Vk .f32 1077936128 + Vk .f32 1077936128 ≤ Vk .f32 1086324736 := by decide +kernel
theorem q3b : (1086324736 : Nat) < inf .f32 ∧ 1048576000 < inf .f32 ∧ 1069547520 ≤ inf .f32 ∧ Vk .f32 1086324736 * Vk .f32 1048576000 ≤ Vk .f32 1069547520 * dn .f32 := by decide +kernel
theorem q3c : (1077936128 : Nat) < inf .f32 ∧ 1069547520 < inf .f32 ∧ 1086324736 ≤ inf .f32 ∧ Vk .f32 1077936128 + Vk .f32 1069547520 ≤ Vk .f32 1086324736 := by decide +kernel
theorem mid_near {x y : Nat} (hx : rk .f32 x ≤ 1077936128) (hy : rk .f32 y ≤ 1077936128) (ax : ab (fr .f32 x) ≤ 3) (ay : ab (fr .f32 y) ≤ 3) :
  ab (fr .f32 (fadd .f32 x (fmul .f32 (fsub .f32 y x) 1048576000)) - (fr .f32 x + 1 / 4 * (fr .f32 y - fr .f32 x))) ≤ 1 / 1200000 ∧ ab (fr .f32 (fadd .f32 x (fmul .f32 (fsub .f32 y x) 1048576000))) ≤ 31 / 10 ∧ rk .f32 (fadd .f32 x (fmul .f32 (fsub .f32 y x) 1048576000)) ≤ 1086324736 := by
 have h1 := mg_sub hy hx q3a
 have h2 := mg_mul h1 (show rk .f32 1048576000 ≤ 1048576000 by decide) q3b
 have h3 := mg_add hx h2 q3c
 have e1 := sub_E (k := .f32) (fin_of hy (by decide)) (fin_of hx (by decide)) (fin_of h1 (by decide))
 have e2 := mul_e (fin_of h1 (by decide)) (show rk .f32 1048576000 < inf .f32 by decide) (fin_of h2 (by decide))
 have e3 := add_e (fin_of hx (by decide)) (fin_of h2 (by decide)) (fin_of h3 (by decide))
 rw [ep32] at e1
 rw [quarter_fr] at e2
 obtain ⟨r1, r2⟩ := mid_cut ax ay et32 (ab_near.1 e1) (ab_near.1 e2) (ab_near.1 e3)
 exact ⟨r1, r2, h3⟩
theorem plc_app {vs : List V3} {v : V3} {x : Int} (hx : 0 ≤ x ∧ x < (vs.length : Int)) : plc (vs ++ [v]) x = plc vs x := by
 unfold plc
 rw [List.getD_eq_getElem?_getD, List.getD_eq_getElem?_getD, List.getElem?_append_left (by omega)]
theorem plc_last (vs : List V3) (v : V3) : plc (vs ++ [v]) (vs.length : Int) = v := by
 unfold plc
 rw [Int.toNat_natCast, List.getD_eq_getElem?_getD, List.getElem?_append_right (Nat.le_refl _)]
 simp
theorem mid_RR {vs : List V3} (h : ∀ v ∈ vs, vB 1077936128 v) {p q : Int} (hp : 0 ≤ p ∧ p < (vs.length : Int)) (hq : 0 ≤ q ∧ q < (vs.length : Int)) :
  (∀ v ∈ vs ++ [midV vs p q 1048576000], vR v) ∧ OnE (vs ++ [midV vs p q 1048576000]) p q (vs.length : Int) (1 / 4) ∧ OnE (vs ++ [midV vs p q 1048576000]) q p (vs.length : Int) (3 / 4) := by
 have hm : ∀ {x : Int}, (0 ≤ x ∧ x < (vs.length : Int)) → vB 1077936128 (plc vs x) := fun {x} hx => by
  unfold plc;rw [getD_lt (by omega)]
  exact h _ (List.getElem_mem _)
 have bp := hm hp
 have bq := hm hq
 obtain ⟨_, px, py, pz⟩ := vR_of bp
 obtain ⟨_, qx, qy, qz⟩ := vR_of bq
 obtain ⟨x1, x2, x3⟩ := mid_near bp.1 bq.1 px qx
 obtain ⟨y1, y2, y3⟩ := mid_near bp.2.1 bq.2.1 py qy
 obtain ⟨z1, z2, z3⟩ := mid_near bp.2.2 bq.2.2 pz qz
 have e : midV vs p q 1048576000 = ⟨fadd .f32 (plc vs p).x (fmul .f32 (fsub .f32 (plc vs q).x (plc vs p).x) 1048576000), fadd .f32 (plc vs p).y (fmul .f32 (fsub .f32 (plc vs q).y (plc vs p).y) 1048576000), fadd .f32 (plc vs p).z (fmul .f32 (fsub .f32 (plc vs q).z (plc vs p).z) 1048576000)⟩ := rfl
 rw [e]
 refine ⟨fun v hv => ?_, ?_, ?_⟩
 ·rcases List.mem_append.1 hv with hv | hv
  ·exact (vR_of (h v hv)).1
  ·rw [List.mem_singleton.1 hv]
   exact ⟨⟨x3, y3, z3⟩, x2, y2, z2⟩
 ·refine ⟨by grind, by grind, ?_, ?_, ?_⟩
  ·rw [plc_last, plc_app hp, plc_app hq]; exact x1
  ·rw [plc_last, plc_app hp, plc_app hq]; exact y1
  ·rw [plc_last, plc_app hp, plc_app hq]; exact z1
 ·have fl : ∀ a b e : Rat, e - (a + 1 / 4 * (b - a)) = e - (b + 3 / 4 * (a - b)) := fun a b e => by grind
  refine ⟨by grind, by grind, ?_, ?_, ?_⟩
  ·rw [plc_last, plc_app hp, plc_app hq, ← fl]; exact x1
  ·rw [plc_last, plc_app hp, plc_app hq, ← fl]; exact y1
  ·rw [plc_last, plc_app hp, plc_app hq, ← fl]; exact z1
theorem atN_lt' {ts : List (List Int)} {a b : Int} : ∀ m, ∀ j ∈ atN ts a b m, j < (m : Int)
 | 0, j, h => by simp [atN] at h
 | m + 1, j, h => by
  simp only [atN] at h;split at h
  ·rcases List.mem_append.1 h with h | h
   ·have := atN_lt' m j h; omega
   ·rw [List.mem_singleton.1 h]; omega
  ·have := atN_lt' m j h; omega
theorem atN_nodup {ts : List (List Int)} {a b : Int} : ∀ m, (atN ts a b m).Nodup
 | 0 => by simp [atN]
 | m + 1 => by
  simp only [atN];split
  ·rw [List.nodup_append]
   refine ⟨atN_nodup m, by simp, fun x hx y hy e => ?_⟩
   have := atN_lt' m x hx;rw [e, List.mem_singleton.1 hy] at this;omega
  ·exact atN_nodup m
theorem splN_len2 (ts : List (List Int)) (p q c : Int) : ∀ k, (splN ts p q c k).length = ts.length + k
 | 0 => rfl
 | k + 1 => by rw [splN, splS_len, splN_len2];omega
theorem spl_step2 {vs : List V3} (h : ∀ v ∈ vs, vR v) {ts acc : List (List Int)} {p q c : Int} {j : Nat} {x y z : Int} (e : ts.getD j [] = [x, y, z]) (ea : acc.getD j [] = [x, y, z]) (hj : j < acc.length) (d1 : x ≠ y) (d2 : y ≠ z) (d3 : x ≠ z) (hpq : p ≠ q) (hb : hasB [x, y, z] p q = true)
  (hx : 0 ≤ x ∧ x < (vs.length : Int)) (hy : 0 ≤ y ∧ y < (vs.length : Int)) (hz : 0 ≤ z ∧ z < (vs.length : Int)) (hc : 0 ≤ c ∧ c < (vs.length : Int)) (o1 : OnE vs p q c (1 / 4)) (o2 : OnE vs q p c (3 / 4)) :
  near (arR vs [x, y, z] / 100000 + 41 / 100000) (arS (arR vs) (splS ts p q c acc (j : Int))) (arS (arR vs) acc) := by
 rw [splS_eq e]
 have key : ∀ a b w, goesP [x, y, z] a b = true → OnE vs a b c w → near (arR vs [x, y, z] / 100000 + 41 / 100000) (arS (arR vs) (splA acc j a b c (thirdP [x, y, z] a b))) (arS (arR vs) acc) := fun a b w hg ho => by
  have hs := tri_split h hx hy hz hc hg ho;unfold splA;rw [arS_app, arS_set _ _ _ _ hj, ea];unfold near at *
  grind
 split
 ·rename_i hg
  exact key p q _ hg o1
 ·rename_i hg
  have := goes_rev d1 d2 d3 hpq hb;rw [Bool.eq_false_iff.2 hg] at this;exact key q p _ this o2
theorem arS_congr {f g : List Int → Rat} : ∀ {l : List (List Int)}, (∀ t ∈ l, f t = g t) → arS f l = arS g l
 | [], _ => rfl
 | s :: l, h => by simp only [arS];rw [h s List.mem_cons_self, arS_congr fun t ht => h t (List.mem_cons_of_mem _ ht)]
theorem spl_area {vs : List V3} (h : ∀ v ∈ vs, vB 1077936128 v) {ts : List (List Int)} {p q : Int} (hv : validP vs.length ts = true) (hs : sheetP ts = true) (ht : twinB ts = false) (hp : 0 ≤ p ∧ p < (vs.length : Int)) (hq : 0 ≤ q ∧ q < (vs.length : Int)) (hpq : p ≠ q) (hat : (atL ts p q).length ≠ 0) :
  near (arS (arR vs) ts / 50000 + 82 / 100000) (arS (arR (vs ++ [midV vs p q 1048576000])) (splT ts p q vs.length)) (arS (arR vs) ts) := by
 obtain ⟨hR, o1, o2⟩ := mid_RR h hp hq
 have hT := triOk_of hv
 obtain ⟨_, _, _, h2⟩ := spl_main hv hs ht hpq hat
 have hl := splN_len2 ts p q vs.length (atL ts p q).length
 rw [show splN ts p q vs.length (atL ts p q).length = splT ts p q vs.length from rfl] at hl
 have hlen : (vs ++ [midV vs p q 1048576000]).length = vs.length + 1 := by simp
 have hsame : arS (arR (vs ++ [midV vs p q 1048576000])) ts = arS (arR vs) ts := arS_congr fun t ht => by
  obtain ⟨x, y, z, rfl, _, _, _, hx, hy, hz⟩ := hT t ht;have g : ∀ {x : Int}, (0 ≤ x ∧ x < (vs.length : Int)) → inr ((vs ++ [midV vs p q 1048576000]).length : Int) x = true := fun hx => inr_of (by rw [hlen]; omega)
  unfold arR;rw [arT_tri (g hx) (g hy) (g hz), arT_tri (inr_of hx) (inr_of hy) (inr_of hz), plc_app hx, plc_app hy, plc_app hz]
 have hnn : ∀ t ∈ ts, 0 ≤ arR (vs ++ [midV vs p q 1048576000]) t := fun t ht => fr_nn (tri_fin hR (fun t ht => by
  obtain ⟨x, y, z, e, h1, h2, h3, hx, hy, hz⟩ := hT t ht
  exact ⟨x, y, z, e, h1, h2, h3, by rw [hlen]; omega, by rw [hlen]; omega, by rw [hlen]; omega⟩) t ht).2
 rw [← hsame]
 have hnd := atN_nodup (ts := ts) (a := p) (b := q) ts.length
 have hin : ∀ j ∈ atL ts p q, ∃ i : Nat, j = (i : Int) ∧ i < ts.length ∧ ∃ x y z, ts.getD i [] = [x, y, z] ∧ x ≠ y ∧ y ≠ z ∧ x ≠ z ∧ hasB [x, y, z] p q = true ∧ (0 ≤ x ∧ x < (vs.length : Int)) ∧ (0 ≤ y ∧ y < (vs.length : Int)) ∧ (0 ≤ z ∧ z < (vs.length : Int)) := fun j hj => by obtain ⟨l0, l1⟩ := atL_in hj;obtain ⟨x, y, z, e, h1, h2, h3, r1, r2, r3, hh⟩ := atL_tri hT hj;exact ⟨j.toNat, by omega, by omega, x, y, z, e, h1, h2, h3, hh, r1, r2, r3⟩
 generalize vs ++ [midV vs p q 1048576000] = us at *
 have gx : ∀ {x : Int}, (0 ≤ x ∧ x < (vs.length : Int)) → 0 ≤ x ∧ x < (us.length : Int) := fun hx => by rw [hlen]; omega
 have gc : 0 ≤ (vs.length : Int) ∧ (vs.length : Int) < (us.length : Int) := by rw [hlen]; omega
 unfold splT
 have hnd' : (atL ts p q).Nodup := hnd
 match hal : atL ts p q, hat, hnd', h2 with
 | [j], _, _, _ =>
  obtain ⟨i, rfl, hi, x, y, z, e, h1, h2, h3, hh, hx, hy, hz⟩ := hin j (by rw [hal]; simp)
  have := spl_step2 hR e e hi h1 h2 h3 hpq hh (gx hx) (gx hy) (gx hz) gc o1 o2;have hle := arS_le hnn hi;rw [e] at hle;show near _ (arS (arR us) (splS ts p q vs.length ts ((atL ts p q).getD 0 0))) _;rw [hal, List.getD_cons_zero];have h0 := hnn [x, y, z] (by rw [← e, getD_lt hi]; exact List.getElem_mem hi)
  obtain ⟨b1, b2⟩ := this
  constructor <;> grind
 | [j, j'], _, hnd', _ =>
  obtain ⟨i, rfl, hi, x, y, z, e, h1, h2, h3, hh, hx, hy, hz⟩ := hin j (by rw [hal]; simp)
  obtain ⟨i', rfl, hi', x', y', z', e', h1', h2', h3', hh', hx', hy', hz'⟩ := hin j' (by rw [hal]; simp)
  have hne : i' ≠ i := by intro ee;subst ee;simp at hnd'
  have s1 := spl_step2 hR e e hi h1 h2 h3 hpq hh (gx hx) (gx hy) (gx hz) gc o1 o2;have hget : (splS ts p q vs.length ts (i : Int)).getD i' [] = [x', y', z'] := by
   rw [← e', splS_eq e];have : ∀ a b c r, (splA ts i a b c r).getD i' [] = ts.getD i' [] := fun a b c r => by unfold splA;rw [List.getD_eq_getElem?_getD, List.getD_eq_getElem?_getD, List.getElem?_append_left (by simpa using hi'), List.getElem?_set_ne (by omega)]
   split
   ·exact this _ _ _ _
   ·exact this _ _ _ _
  have s2 := spl_step2 hR e' hget (by rw [splS_len]; omega) h1' h2' h3' hpq hh' (gx hx') (gx hy') (gx hz') gc o1 o2
  have hle := arS_le hnn hi;have hle' := arS_le hnn hi';rw [e] at hle;rw [e'] at hle';show near _ (arS (arR us) (splS ts p q vs.length (splS ts p q vs.length ts ((atL ts p q).getD 0 0)) ((atL ts p q).getD 1 0))) _;rw [hal, List.getD_cons_zero, List.getD_cons_succ, List.getD_cons_zero];have h0 := hnn [x, y, z] (by rw [← e, getD_lt hi]; exact List.getElem_mem hi)
  obtain ⟨b1, b2⟩ := s1;obtain ⟨c1, c2⟩ := s2
  constructor <;> grind
 | a :: b :: c :: l, _, _, h2 =>
  rw [hal] at hl;simp only [List.length_cons] at hl;omega
end Vs
namespace Vs
open Go Go.Sort Ieee
theorem ep64 : ep .f64 = 1 / 4503599627370496 := by
 unfold ep
 rw [show FloatKind.f64.format.binade = 4503599627370496 by decide]
 rfl
theorem et64 : et .f64 ≤ 1 / 1393796574908163946345982392040522594123776 := by
 have h1 : (1393796574908163946345982392040522594123776 : Nat) ≤ dn .f64 := by decide +kernel
 have h2 : (1393796574908163946345982392040522594123776 : Rat) ≤ (dn .f64 : Rat) := by exact_mod_cast h1
 have h3 := dn_pos .f64
 unfold et
 refine le_of_mul h3 ?_
 generalize (dn .f64 : Rat) = D at *
 have : 1 / D * D = 1 := by grind
 rw [this]
 grind
theorem one_fr : fr .f64 4607182418800017408 = 1 := by
 have h1 : Vk .f64 (rk .f64 4607182418800017408) = dn .f64 := by decide +kernel
 have h2 : fr .f64 4607182418800017408 * (dn .f64 : Rat) = ((dn .f64 : Nat) : Rat) := by
  rcases fr_cases (k := .f64) 4607182418800017408 with ⟨_, e⟩ | ⟨e, _⟩
  ·rw [e, h1]
  ·exact absurd e (by decide)
 refine mul_cancel (dn_pos .f64) ?_
 rw [h2, Rat.one_mul]
theorem milli_fr : 999999 / 1000000000 ≤ fr .f64 4562254508917369340 ∧ fr .f64 4562254508917369340 ≤ 1 / 100 := by
 have h1 : 999999 * dn .f64 ≤ 1000000000 * Vk .f64 (rk .f64 4562254508917369340) := by decide +kernel
 have h1' : 100 * Vk .f64 (rk .f64 4562254508917369340) ≤ dn .f64 := by decide +kernel
 have h2 : fr .f64 4562254508917369340 * (dn .f64 : Rat) = ((Vk .f64 (rk .f64 4562254508917369340) : Nat) : Rat) := by
  rcases fr_cases (k := .f64) 4562254508917369340 with ⟨_, e⟩ | ⟨e, _⟩
  ·exact e
  ·exact absurd e (by decide)
 have h3 : ((999999 : Nat) : Rat) * (dn .f64 : Rat) ≤ ((1000000000 : Nat) : Rat) * ((Vk .f64 (rk .f64 4562254508917369340) : Nat) : Rat) := by exact_mod_cast h1
 have h4 : ((100 : Nat) : Rat) * ((Vk .f64 (rk .f64 4562254508917369340) : Nat) : Rat) ≤ (dn .f64 : Rat) := by exact_mod_cast h1'
 rw [← h2] at h3 h4
 have hd := dn_pos .f64
 have e1 : ((999999 : Nat) : Rat) = 999999 := rfl
 have e2 : ((1000000000 : Nat) : Rat) = 1000000000 := rfl
 have e3 : ((100 : Nat) : Rat) = 100 := rfl
 rw [e1, e2] at h3
 rw [e3] at h4
 generalize fr .f64 4562254508917369340 = v at *
 generalize (dn .f64 : Rat) = D at *
 constructor
 ·refine le_of_mul hd ?_
  grind
 ·refine le_of_mul hd ?_
  grind
theorem gap_cut {x y a b s m r t u : Rat} (hx : 0 ≤ x) (ht : t ≤ 1 / 1393796574908163946345982392040522594123776) (h : near (4 / 100000 * x + 83 / 100000) y x)
  (a1 : near (1 / 4503599627370496 * ab (x - y)) a (x - y)) (b1 : near (1 / 4503599627370496 * ab (y - x)) b (y - x)) (s1 : near (1 / 4503599627370496 * ab (1 + x)) s (1 + x)) (hm : 999999 / 1000000000 ≤ m) (hm2 : m ≤ 1 / 100) (r1 : near (1 / 4503599627370496 * ab (m * s) + u) r (m * s)) (hu : u ≤ t) : a ≤ r ∧ b ≤ r := by
 rw [ab_pos (show 0 ≤ 1 + x by grind)] at s1
 obtain ⟨h1, h2⟩ := h
 obtain ⟨s1, s2⟩ := s1
 have hs : (1 + x) * (999999 / 1000000) ≤ s := by grind
 have hs0 : 0 ≤ s := by grind
 have k1 := mul_le_r hs0 hm
 have k2 := mul_le_r hs0 hm2
 have hms : 0 ≤ m * s := mul_nn (by grind) hs0
 rw [ab_pos hms] at r1
 obtain ⟨r1, r2⟩ := r1
 have d1 : ab (x - y) ≤ 4 / 100000 * x + 83 / 100000 := ab_le h2 (by grind)
 have d2 : ab (y - x) ≤ 4 / 100000 * x + 83 / 100000 := ab_le h1 (by grind)
 obtain ⟨a1, a2⟩ := a1
 obtain ⟨b1, b2⟩ := b1
 have e1 : x - y ≤ ab (x - y) := le_ab _
 have e2 : y - x ≤ ab (y - x) := le_ab _
 generalize m * s = q at *
 constructor <;> grind
theorem w117 : (2046820352 : Nat) < inf .f32 ∧ 5134103575202365440 ≤ inf .f64 ∧ Vk .f32 2046820352 * cw ≤ Vk .f64 5134103575202365440 := by decide +kernel
theorem w118 : (5134103575202365440 : Nat) < inf .f64 ∧ 5134103575202365440 < inf .f64 ∧ 5138607174829735936 ≤ inf .f64 ∧ Vk .f64 5134103575202365440 + Vk .f64 5134103575202365440 ≤ Vk .f64 5138607174829735936 := by decide +kernel
theorem w119 : (4607182418800017408 : Nat) < inf .f64 ∧ 5134103575202365440 < inf .f64 ∧ 5138607174829735936 ≤ inf .f64 ∧ Vk .f64 4607182418800017408 + Vk .f64 5134103575202365440 ≤ Vk .f64 5138607174829735936 := by decide +kernel
theorem w120 : (4562254508917369340 : Nat) < inf .f64 ∧ 5138607174829735936 < inf .f64 ∧ 5138607174829735936 ≤ inf .f64 ∧ Vk .f64 4562254508917369340 * Vk .f64 5138607174829735936 ≤ Vk .f64 5138607174829735936 * dn .f64 := by decide +kernel
theorem fr_sv {k : FloatKind} {x y : Nat} (h : fr k x ≤ fr k y) : sv k x ≤ sv k y := by
 have := mul_le_r (Rat.le_of_lt (dn_pos k)) h
 rw [fr_mul, fr_mul] at this
 exact_mod_cast this
theorem gap_ok {x y : Nat} (hx : rk .f32 x ≤ 2046820352) (hy : rk .f32 y ≤ 2046820352) (sx : sgn single x = false) (h : near (4 / 100000 * fr .f32 x + 83 / 100000) (fr .f32 y) (fr .f32 x)) :
  ∃ g, F231 [.flt (wide x), .flt (wide y)] = some [.flt g] ∧ fgt .f64 g (fmul .f64 4562254508917369340 (fadd .f64 4607182418800017408 (wide x))) = false := by
 have fx := fin_of hx w117.1
 have fy := fin_of hy w117.1
 have wx := wide_le hx w117
 have wy := wide_le hy w117
 have gx := fr_wide fx
 have gy := fr_wide fy
 have hlt : (5134103575202365440 : Nat) < inf .f64 := by decide
 have hl2 : (5138607174829735936 : Nat) < inf .f64 := by decide
 have f1 := Nat.lt_of_le_of_lt wx hlt
 have f2 := Nat.lt_of_le_of_lt wy hlt
 have m1 := Nat.lt_of_le_of_lt (mg_sub wx wy w118) hl2
 have m2 := Nat.lt_of_le_of_lt (mg_sub wy wx w118) hl2
 have m3' := mg_add (k := .f64) (show rk .f64 4607182418800017408 ≤ 4607182418800017408 by decide) wx w119
 have m3 := Nat.lt_of_le_of_lt m3' hl2
 have m4 := Nat.lt_of_le_of_lt (mg_mul (k := .f64) (show rk .f64 4562254508917369340 ≤ 4562254508917369340 by decide) m3' w120) hl2
 have e1 := sub_E f1 f2 m1
 have e2 := sub_E f2 f1 m2
 have e3 := add_E (k := .f64) (show rk .f64 4607182418800017408 < inf .f64 by decide) f1 m3
 have e4 := mul_E (k := .f64) (show rk .f64 4562254508917369340 < inf .f64 by decide) m3 m4
 rw [ep64, gx, gy] at e1 e2
 rw [ep64, gx, one_fr] at e3
 rw [ep64] at e4
 obtain ⟨r1, r2⟩ := gap_cut (fr_nn sx) et64 h e1 e2 e3 milli_fr.1 milli_fr.2 e4 Rat.le_refl
 obtain ⟨g, hg, ho⟩ := fmax_or m1 m2
 refine ⟨g, ?_, ?_⟩
 ·show (gev none (.fmax .f64) [.flt (fsub .f64 (wide x) (wide y)), .flt (fsub .f64 (wide y) (wide x))]).map (fun d => [d]) = _
  rw [hg];rfl
 ·have hgf : rk .f64 g < inf .f64 := by rcases ho with rfl | rfl <;> assumption
  rw [fgt_R hgf m4];refine decide_eq_false (Int.not_lt.2 (fr_sv ?_))
  rcases ho with rfl | rfl
  ·exact r1
  ·exact r2
theorem area_gap {x y X X' i j : Rat} (hi : i ≤ 49) (hj : j ≤ 49) (hX : 0 ≤ X) (hX' : 0 ≤ X') (h1 : near (i * (1 / 8000000) * X) x X) (h2 : near (j * (1 / 8000000) * X') y X') (h3 : near (X / 50000 + 82 / 100000) X' X) : near (4 / 100000 * x + 83 / 100000) y x := by
 obtain ⟨a1, a2⟩ := h1
 obtain ⟨b1, b2⟩ := h2
 obtain ⟨c1, c2⟩ := h3
 have k1 := mul_le_r hX hi
 have k2 := mul_le_r hX' hj
 have e1 : i * (1 / 8000000) * X = i * X * (1 / 8000000) := by grind
 have e2 : j * (1 / 8000000) * X' = j * X' * (1 / 8000000) := by grind
 rw [e1] at a1 a2
 rw [e2] at b1 b2
 generalize i * X = p at *
 generalize j * X' = q at *
 constructor <;> grind
end Vs
namespace Vs
open Go Go.Sort
instance sepDec2 (s t : List Int) : Decidable (sepT s t) := inferInstanceAs (Decidable (¬ _))
def bckOk (n : Nat) (ts : List (List Int)) (e : E2) : Bool :=
 inr n e.1 && (inr n e.2 && ((e.1 != e.2) && (!decide ((atL (splT ts e.1 e.2 n) e.1 n).length = 0) && (!decide ((joinT (splT ts e.1 e.2 n) e.1 n).length = 0) && (sheetP (joinT (splT ts e.1 e.2 n) e.1 n) && (decide ((joinT (splT ts e.1 e.2 n) e.1 n).Pairwise sepT) &&
  (validP n (joinT (splT ts e.1 e.2 n) e.1 n) && ((eulP n (joinT (splT ts e.1 e.2 n) e.1 n) == eulP n ts) && (edgL (joinT (splT ts e.1 e.2 n) e.1 n) n == edgL ts n)))))))))
theorem back0 : (edgL ft0 fv0.length).all (bckOk fv0.length ft0) = true := by decide +kernel
theorem back1 : (edgL ft1 fv1.length).all (bckOk fv1.length ft1) = true := by decide +kernel
theorem back2 : (edgL ft2 fv2.length).all (bckOk fv2.length ft2) = true := by decide +kernel
theorem back3 : (edgL ft3 fv3.length).all (bckOk fv3.length ft3) = true := by decide +kernel
end Vs
namespace Vs
open Go Go.Sort
set_option maxRecDepth 100000
def bl0 : List E2 := [(0, 6), (0, 7), (0, 8), (0, 9), (1, 10), (1, 11)]
theorem ba0 : bl0.all (bckOk 18 ft4) = true := by decide +kernel
def bl1 : List E2 := [(1, 12), (1, 13), (2, 6), (2, 10), (2, 14), (2, 15)]
theorem ba1 : bl1.all (bckOk 18 ft4) = true := by decide +kernel
def bl2 : List E2 := [(3, 7), (3, 11), (3, 16), (3, 17), (4, 8), (4, 12)]
theorem ba2 : bl2.all (bckOk 18 ft4) = true := by decide +kernel
def bl3 : List E2 := [(4, 14), (4, 16), (5, 9), (5, 13), (5, 15), (5, 17)]
theorem ba3 : bl3.all (bckOk 18 ft4) = true := by decide +kernel
def bl4 : List E2 := [(6, 8), (6, 9), (6, 14), (6, 15), (7, 8), (7, 9)]
theorem ba4 : bl4.all (bckOk 18 ft4) = true := by decide +kernel
def bl5 : List E2 := [(7, 16), (7, 17), (8, 14), (8, 16), (9, 15), (9, 17)]
theorem ba5 : bl5.all (bckOk 18 ft4) = true := by decide +kernel
def bl6 : List E2 := [(10, 12), (10, 13), (10, 14), (10, 15), (11, 12), (11, 13)]
theorem ba6 : bl6.all (bckOk 18 ft4) = true := by decide +kernel
def bl7 : List E2 := [(11, 16), (11, 17), (12, 14), (12, 16), (13, 15), (13, 17)]
theorem ba7 : bl7.all (bckOk 18 ft4) = true := by decide +kernel
theorem ball_bl : edgL ft4 18 = bl0 ++ (bl1 ++ (bl2 ++ (bl3 ++ (bl4 ++ (bl5 ++ (bl6 ++ bl7)))))) := by decide +kernel
theorem back4 : (edgL ft4 18).all (bckOk 18 ft4) = true := by
 rw [ball_bl]
 simp only [List.all_append, ba0, ba1, ba2, ba3, ba4, ba5, ba6, ba7, Bool.and_self]
theorem form_back : ∀ k, (edgL (formT k) (formV k).length).all (bckOk (formV k).length (formT k)) = true
 | 0 => back0
 | 1 => back1
 | 2 => back2
 | 3 => back3
 | _ + 4 => back4
theorem form_sep5 : ∀ k : Fin 5, (formT k.1).Pairwise sepT := by decide +kernel
theorem form_tw5 {k : Nat} (hk : k < 5) : twinB (formT k) = false := twinB_iff.2 (form_sep5 ⟨k, hk⟩)
end Vs
