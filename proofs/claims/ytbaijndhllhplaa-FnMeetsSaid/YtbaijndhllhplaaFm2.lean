/-
  One round of the point of meeting, in floats: the ways become no longer, nearly.
-/
import Derived.Test.YtbaijndhllhplaaFm1
import Derived.Test.YtbaijndhllhplaaD
set_option maxHeartbeats 4000000
namespace Vs
open Go Ieee
def lenE (D P : Rat) : Prop := 0 ≤ D ∧ D * D ≤ P * (250001 / 250000) + 1 / 10000000000000000000 ∧ P ≤ D * D * (250001 / 250000) + 1 / 10000000000000000000
def wgtP (D w u : Rat) : Prop := w * D = 1 ∧ D ≤ 8 ∧ 0 ≤ w ∧ ab (u - w) ≤ 13 / 100000000 * w
theorem ab_of_sq {x m : Rat} (hm : 0 ≤ m) (h : x * x ≤ m * m) : ab x ≤ m := sq_le hm (by rw [ab_sq]; exact h)
theorem far_A {dx dy dz ux uy uz D w : Rat} (gx : dx = 0 ∨ 1 / 4 ≤ ab dx) (gy : dy = 0 ∨ 1 / 4 ≤ ab dy) (gz : dz = 0 ∨ 1 / 4 ≤ ab dz) (bx : ab dx ≤ 4) (hy : ab dy ≤ 4) (bz : ab dz ≤ 4)
  (vx : ab ux ≤ 11 / 10000000) (vy : ab uy ≤ 11 / 10000000) (vz : ab uz ≤ 11 / 10000000) (hD : lenE D ((ux - dx) * (ux - dx) + (uy - dy) * (uy - dy) + (uz - dz) * (uz - dz))) (hw : w * D = 1) (hw0 : 0 ≤ w) :
  ab (w * dx) ≤ 18 ∧ ab (w * dy) ≤ 18 ∧ ab (w * dz) ≤ 18 := by
 obtain ⟨h0, _, hP⟩ := hD
 have sx := sq_nn (ux - dx); have sy := sq_nn (uy - dy); have sz := sq_nn (uz - dz)
 have part : ∀ {d u : Rat}, 1 / 4 ≤ ab d → ab u ≤ 11 / 10000000 → 6 / 100 ≤ (u - d) * (u - d) := fun {d u} h1 h2 => by
  have h3 : 245 / 1000 ≤ ab (u - d) := by
   have := ab_sub u (u - d);rw [show u - (u - d) = d by grind] at this
   grind
  rw [← ab_sq];generalize ab (u - d) = t at *;have k1 := mul_le_r (show (0 : Rat) ≤ 245 / 1000 by grind) h3
  have k2 := mul_le_r (show (0 : Rat) ≤ t by grind) h3
  grind
 have fin : 6 / 100 ≤ (ux - dx) * (ux - dx) + (uy - dy) * (uy - dy) + (uz - dz) * (uz - dz) → ab (w * dx) ≤ 18 ∧ ab (w * dy) ≤ 18 ∧ ab (w * dz) ≤ 18 := fun h => by
  have hDl : 24 / 100 ≤ D := sq_le h0 (by grind)
  have hwl := Rat.mul_le_mul_of_nonneg_left hDl hw0;have hw2 : ab w ≤ 42 / 10 := by rw [ab_pos hw0]; grind
  have a1 := ab_mul_le hw2 bx; have a2 := ab_mul_le hw2 hy; have a3 := ab_mul_le hw2 bz;refine ⟨by grind, by grind, by grind⟩
 rcases gx with gx | gx
 ·rcases gy with gy | gy
  ·rcases gz with gz | gz
   ·rw [gx, gy, gz, Rat.mul_zero]
    refine ⟨by decide, by decide, by decide⟩
   ·exact fin (by have := part gz vz; grind)
  ·exact fin (by have := part gy vy; grind)
 ·exact fin (by have := part gx vx; grind)
theorem near_A {x1 x2 x3 p q Z D1 w1 u1 w2 u2 w3 u3 : Rat} (h1 : wgtP D1 w1 u1) (hD : D1 ≤ 1 / 1000000) (h2 : ab (u2 - w2) ≤ 13 / 100000000 * w2) (h3 : ab (u3 - w3) ≤ 13 / 100000000 * w3) (hu2 : 0 ≤ u2) (hu3 : 0 ≤ u3) (w2n : 0 ≤ w2) (w3n : 0 ≤ w3)
  (g2 : ab (w2 * (x2 - x1)) ≤ 18) (g3 : ab (w3 * (x3 - x1)) ≤ 18) (hZ : Z * (u1 + u2 + u3) = x1 * u1 + x2 * u2 + x3 * u3) (hq : ab (q - Z) ≤ 1 / 500000) (hp : ab (p - x1) ≤ 11 / 10000000) : ab (q - p) ≤ 1 / 25000 := by
 obtain ⟨a1, _, a3, a4⟩ := h1
 have hw1 : 1000000 ≤ w1 := by
  have := Rat.mul_le_mul_of_nonneg_left hD a3
  grind
 have hu1 : 999000 ≤ u1 := by have := neg_ab (u1 - w1); grind
 have part : ∀ {w u d : Rat}, ab (u - w) ≤ 13 / 100000000 * w → 0 ≤ w → ab (w * d) ≤ 18 → ab (u * d) ≤ 1801 / 100 := fun {w u d} c1 c2 c3 => by
  have e1 : u * d = (u - w) * d + w * d := by grind
  have e2 := ab_add ((u - w) * d) (w * d);rw [← e1, ab_mul (u - w) d] at e2;have e3 := mul_le_r (ab_nonneg d) c1;rw [ab_mul, ab_pos c2] at c3;rw [ab_mul w d, ab_pos c2] at e2
  grind
 have k2 := part h2 w2n g2
 have k3 := part h3 w3n g3
 have hW : 999000 ≤ u1 + u2 + u3 := by grind
 have e : (Z - x1) * (u1 + u2 + u3) = u2 * (x2 - x1) + u3 * (x3 - x1) := by grind
 have c := ab_add (u2 * (x2 - x1)) (u3 * (x3 - x1))
 rw [← e, ab_mul, ab_pos (show 0 ≤ u1 + u2 + u3 by grind)] at c
 have hz : ab (Z - x1) ≤ 361 / 10000000 := by
  have h0 := ab_nonneg (Z - x1);have := Rat.mul_le_mul_of_nonneg_left hW h0
  grind
 have d1 := ab_add (q - Z) (Z - x1)
 have d2 := ab_sub (q - Z + (Z - x1)) (p - x1)
 rw [show q - Z + (Z - x1) - (p - x1) = q - p by grind] at d2
 grind
structure R3 where
 x : Rat
 y : Rat
 z : Rat
def R3.far (p a : R3) : Rat := (p.x - a.x) * (p.x - a.x) + (p.y - a.y) * (p.y - a.y) + (p.z - a.z) * (p.z - a.z)
def R3.le2 (a : R3) : Prop := ab a.x ≤ 2 ∧ ab a.y ≤ 2 ∧ ab a.z ≤ 2
def qua (x y : Rat) : Prop := y - x = 0 ∨ 1 / 4 ≤ ab (y - x)
def R3.qua (a b : R3) : Prop := Vs.qua a.x b.x ∧ Vs.qua a.y b.y ∧ Vs.qua a.z b.z
def meanP (x1 x2 x3 u1 u2 u3 q : Rat) : Prop := ∃ Z : Rat, Z * (u1 + u2 + u3) = x1 * u1 + x2 * u2 + x3 * u3 ∧ ab (q - Z) ≤ 1 / 500000
theorem mean_swap {x1 x2 x3 u1 u2 u3 q : Rat} (h : meanP x1 x2 x3 u1 u2 u3 q) : meanP x2 x1 x3 u2 u1 u3 q := by
 obtain ⟨Z, h1, h2⟩ := h
 exact ⟨Z, by grind, h2⟩
theorem mean_rot {x1 x2 x3 u1 u2 u3 q : Rat} (h : meanP x1 x2 x3 u1 u2 u3 q) : meanP x3 x1 x2 u3 u1 u2 q := by
 obtain ⟨Z, h1, h2⟩ := h
 exact ⟨Z, by grind, h2⟩
theorem way_A {a b c p q : R3} {D1 D2 D3 E1 E2 E3 w1 w2 w3 u1 u2 u3 : Rat} (a2 : a.le2) (b2 : b.le2) (c2 : c.le2) (gab : a.qua b) (gac : a.qua c)
  (l1 : lenE D1 (p.far a)) (l2 : lenE D2 (p.far b)) (l3 : lenE D3 (p.far c)) (m1 : lenE E1 (q.far a)) (m2 : lenE E2 (q.far b)) (m3 : lenE E3 (q.far c)) (h1 : wgtP D1 w1 u1) (h2 : wgtP D2 w2 u2) (h3 : wgtP D3 w3 u3) (hu2 : 0 ≤ u2) (hu3 : 0 ≤ u3)
  (zx : meanP a.x b.x c.x u1 u2 u3 q.x) (zy : meanP a.y b.y c.y u1 u2 u3 q.y) (zz : meanP a.z b.z c.z u1 u2 u3 q.z) (hD : D1 ≤ 1 / 1000000) : E1 + E2 + E3 ≤ D1 + D2 + D3 + 7 / 10000 := by
 have sx := sq_nn (p.x - a.x); have sy := sq_nn (p.y - a.y); have sz := sq_nn (p.z - a.z)
 have hP : p.far a ≤ 11 / 10000000 * (11 / 10000000) := by
  have k1 := mul_le_r l1.1 hD;have k2 := Rat.mul_le_mul_of_nonneg_left hD (show (0 : Rat) ≤ 1 / 1000000 by grind)
  have := l1.2.2
  grind
 have vx : ab (p.x - a.x) ≤ 11 / 10000000 := ab_of_sq (by grind) (by unfold R3.far at hP; grind)
 have vy : ab (p.y - a.y) ≤ 11 / 10000000 := ab_of_sq (by grind) (by unfold R3.far at hP; grind)
 have vz : ab (p.z - a.z) ≤ 11 / 10000000 := ab_of_sq (by grind) (by unfold R3.far at hP; grind)
 have four : ∀ {s t : Rat}, ab s ≤ 2 → ab t ≤ 2 → ab (t - s) ≤ 4 := fun {s t} h1 h2 => by have := ab_sub t s; grind
 have far : ∀ {e : R3} {D w : Rat}, e.le2 → a.qua e → lenE D (p.far e) → w * D = 1 → 0 ≤ w → ab (w * (e.x - a.x)) ≤ 18 ∧ ab (w * (e.y - a.y)) ≤ 18 ∧ ab (w * (e.z - a.z)) ≤ 18 := fun {e D w} he hg hl hw hw0 => by
  refine far_A (ux := p.x - a.x) (uy := p.y - a.y) (uz := p.z - a.z) hg.1 hg.2.1 hg.2.2 (four a2.1 he.1) (four a2.2.1 he.2.1) (four a2.2.2 he.2.2) vx vy vz ?_ hw hw0;have e1 : p.x - a.x - (e.x - a.x) = p.x - e.x := by grind
  have e2 : p.y - a.y - (e.y - a.y) = p.y - e.y := by grind
  have e3 : p.z - a.z - (e.z - a.z) = p.z - e.z := by grind
  rw [e1, e2, e3];exact hl
 obtain ⟨f1, f2, f3⟩ := far b2 gab l2 h2.1 h2.2.2.1
 obtain ⟨g1, g2, g3⟩ := far c2 gac l3 h3.1 h3.2.2.1
 obtain ⟨Zx, zx1, zx2⟩ := zx
 obtain ⟨Zy, zy1, zy2⟩ := zy
 obtain ⟨Zz, zz1, zz2⟩ := zz
 have qx := near_A h1 hD h2.2.2.2 h3.2.2.2 hu2 hu3 h2.2.2.1 h3.2.2.1 f1 g1 zx1 zx2 vx
 have qy := near_A h1 hD h2.2.2.2 h3.2.2.2 hu2 hu3 h2.2.2.1 h3.2.2.1 f2 g2 zy1 zy2 vy
 have qz := near_A h1 hD h2.2.2.2 h3.2.2.2 hu2 hu3 h2.2.2.1 h3.2.2.1 f3 g3 zz1 zz2 vz
 have step : ∀ {e : R3} {D E : Rat}, lenE D (p.far e) → lenE E (q.far e) → E ≤ D * (125001 / 125000) + 4 * (1 / 25000) := fun {e D E} hl hm =>
  len_cmp2 hl.1 (by grind) hl.2.2 hm.2.1 (by rw [show q.x - e.x - (p.x - e.x) = q.x - p.x by grind]; exact qx) (by rw [show q.y - e.y - (p.y - e.y) = q.y - p.y by grind]; exact qy) (by rw [show q.z - e.z - (p.z - e.z) = q.z - p.z by grind]; exact qz)
 have s1 := step l1 m1; have s2 := step l2 m2; have s3 := step l3 m3
 have d1 := h1.2.1; have d2 := h2.2.1; have d3 := h3.2.1
 clear far four step
 grind
theorem way_B3 {a b c p q : R3} {D1 D2 D3 E1 E2 E3 w1 w2 w3 u1 u2 u3 : Rat} (a2 : a.le2) (b2 : b.le2) (c2 : c.le2)
  (l1 : lenE D1 (p.far a)) (l2 : lenE D2 (p.far b)) (l3 : lenE D3 (p.far c)) (m1 : lenE E1 (q.far a)) (m2 : lenE E2 (q.far b)) (m3 : lenE E3 (q.far c)) (h1 : wgtP D1 w1 u1) (h2 : wgtP D2 w2 u2) (h3 : wgtP D3 w3 u3)
  (zx : meanP a.x b.x c.x u1 u2 u3 q.x) (zy : meanP a.y b.y c.y u1 u2 u3 q.y) (zz : meanP a.z b.z c.z u1 u2 u3 q.z) (hD1 : 1 / 1000000 ≤ D1) (hD2 : 1 / 1000000 ≤ D2) (hD3 : 1 / 1000000 ≤ D3) : E1 + E2 + E3 ≤ D1 + D2 + D3 + 7 / 10000 := by
 have low : ∀ {D w : Rat}, w * D = 1 → D ≤ 8 → 0 ≤ w → 1 / 8 ≤ w := fun {D w} e1 e2 e3 => by
  have := Rat.mul_le_mul_of_nonneg_left e2 e3
  grind
 have v1 := low h1.1 h1.2.1 h1.2.2.1; have v2 := low h2.1 h2.2.1 h2.2.2.1; have v3 := low h3.1 h3.2.1 h3.2.2.1
 have hW : 0 < w1 + w2 + w3 := by grind
 have mid : ∀ x1 x2 x3 : Rat, ∃ X : Rat, X * (w1 + w2 + w3) = x1 * w1 + x2 * w2 + x3 * w3 := fun x1 x2 x3 => ⟨(x1 * w1 + x2 * w2 + x3 * w3) / (w1 + w2 + w3), by generalize x1 * w1 + x2 * w2 + x3 * w3 = s; generalize w1 + w2 + w3 = t at *; grind⟩
 have one : ∀ {x1 x2 x3 y p : Rat}, ab x1 ≤ 2 → ab x2 ≤ 2 → ab x3 ≤ 2 → meanP x1 x2 x3 u1 u2 u3 y → w1 * ((y - x1) * (y - x1)) + w2 * ((y - x2) * (y - x2)) + w3 * ((y - x3) * (y - x3)) ≤ w1 * ((p - x1) * (p - x1)) + w2 * ((p - x2) * (p - x2)) + w3 * ((p - x3) * (p - x3)) + (w1 + w2 + w3) * (9 / 1000000000000) := fun {x1 x2 x3 y p} e1 e2 e3 e4 => by obtain ⟨Z, hZ, hq⟩ := e4;obtain ⟨X, hX⟩ := mid x1 x2 x3;exact mean_best hX (by grind) (mean_near h1.2.2.1 h2.2.2.1 h3.2.2.1 (by grind) h1.2.2.2 h2.2.2.2 h3.2.2.2 e1 e2 e3 hZ hX hq)
 have ox := one (p := p.x) a2.1 b2.1 c2.1 zx
 have oy := one (p := p.y) a2.2.1 b2.2.1 c2.2.1 zy
 have oz := one (p := p.z) a2.2.2 b2.2.2 c2.2.2 zz
 have := way_B h1.1 h2.1 h3.1 hD1 hD2 hD3 h1.2.1 h2.2.1 h3.2.1 h1.2.2.1 h2.2.2.1 h3.2.2.1 l1.2.2 l2.2.2 l3.2.2 m1.2.1 m2.2.1 m3.2.1 (by
  clear one mid low;unfold R3.far;generalize w1 + w2 + w3 = W at *
  grind)
 grind
theorem way_all {a b c p q : R3} {D1 D2 D3 E1 E2 E3 w1 w2 w3 u1 u2 u3 : Rat} (a2 : a.le2) (b2 : b.le2) (c2 : c.le2) (gab : a.qua b) (gac : a.qua c) (gba : b.qua a) (gbc : b.qua c) (gca : c.qua a) (gcb : c.qua b)
  (l1 : lenE D1 (p.far a)) (l2 : lenE D2 (p.far b)) (l3 : lenE D3 (p.far c)) (m1 : lenE E1 (q.far a)) (m2 : lenE E2 (q.far b)) (m3 : lenE E3 (q.far c)) (h1 : wgtP D1 w1 u1) (h2 : wgtP D2 w2 u2) (h3 : wgtP D3 w3 u3) (hu1 : 0 ≤ u1) (hu2 : 0 ≤ u2) (hu3 : 0 ≤ u3)
  (zx : meanP a.x b.x c.x u1 u2 u3 q.x) (zy : meanP a.y b.y c.y u1 u2 u3 q.y) (zz : meanP a.z b.z c.z u1 u2 u3 q.z) : E1 + E2 + E3 ≤ D1 + D2 + D3 + 7 / 10000 := by
 rcases Rat.le_total (a := D1) (b := 1 / 1000000) with d1 | d1
 ·exact way_A a2 b2 c2 gab gac l1 l2 l3 m1 m2 m3 h1 h2 h3 hu2 hu3 zx zy zz d1
 ·rcases Rat.le_total (a := D2) (b := 1 / 1000000) with d2 | d2
  ·have := way_A b2 a2 c2 gba gbc l2 l1 l3 m2 m1 m3 h2 h1 h3 hu1 hu3 (mean_swap zx) (mean_swap zy) (mean_swap zz) d2
   grind
  ·rcases Rat.le_total (a := D3) (b := 1 / 1000000) with d3 | d3
   ·have := way_A c2 a2 b2 gca gcb l3 l1 l2 m3 m1 m2 h3 h1 h2 hu1 hu2 (mean_rot zx) (mean_rot zy) (mean_rot zz) d3
    grind
   ·exact way_B3 a2 b2 c2 l1 l2 l3 m1 m2 m3 h1 h2 h3 zx zy zz d1 d2 d3
end Vs
