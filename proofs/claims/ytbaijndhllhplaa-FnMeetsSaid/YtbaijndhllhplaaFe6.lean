/-
  No triangle is thicker than 1, nearly: the floats.
-/
import Derived.Test.YtbaijndhllhplaaFe5
set_option maxHeartbeats 4000000
namespace Vs
open Go Ieee
theorem ep32 : ep .f32 = 1 / 8388608 := by
 unfold ep
 rw [show FloatKind.f32.format.binade = 8388608 by decide]
 rfl
theorem et32 : et .f32 ≤ 1 / 1393796574908163946345982392040522594123776 := by
 have h1 : (1393796574908163946345982392040522594123776 : Nat) ≤ dn .f32 := by decide +kernel
 have h2 : (1393796574908163946345982392040522594123776 : Rat) ≤ (dn .f32 : Rat) := by exact_mod_cast h1
 have h3 := dn_pos .f32
 unfold et
 refine le_of_mul h3 ?_
 generalize (dn .f32 : Rat) = D at *
 have : 1 / D * D = 1 := by grind
 rw [this]
 grind
theorem dot_near {x y z a b c s D t : Rat} (ht0 : 0 ≤ t) (h1 : near (1 / 8388608 * ab (x * x) + t) a (x * x)) (h2 : near (1 / 8388608 * ab (y * y) + t) b (y * y)) (h3 : near (1 / 8388608 * ab (z * z) + t) c (z * z))
  (h4 : near (1 / 8388608 * ab (a + b)) s (a + b)) (h5 : near (1 / 8388608 * ab (s + c)) D (s + c)) (ha : 0 ≤ a) (hb : 0 ≤ b) (hc : 0 ≤ c) (hs : 0 ≤ s) :
  (x * x + y * y + z * z) * (1 - 3 / 8388608) - 4 * t ≤ D ∧ D ≤ (x * x + y * y + z * z) * (1 + 4 / 8388608) + 4 * t := by
 have sx := sq_nn x; have sy := sq_nn y; have sz := sq_nn z
 rw [ab_pos sx] at h1
 rw [ab_pos sy] at h2
 rw [ab_pos sz] at h3
 rw [ab_pos (by grind)] at h4
 rw [ab_pos (by grind)] at h5
 obtain ⟨a1, a2⟩ := h1
 obtain ⟨b1, b2⟩ := h2
 obtain ⟨c1, c2⟩ := h3
 obtain ⟨d1, d2⟩ := h4
 obtain ⟨e1, e2⟩ := h5
 generalize x * x = X at *
 generalize y * y = Y at *
 generalize z * z = Z at *
 constructor <;> grind
def rx (v : V3) : Rat := fr .f32 v.x
def ry (v : V3) : Rat := fr .f32 v.y
def rz (v : V3) : Rat := fr .f32 v.z
theorem fr_nn {x : Nat} (hs : sgn single x = false) : 0 ≤ fr .f32 x := by
 rcases fr_cases (k := .f32) x with ⟨_, e⟩ | ⟨e, _⟩
 ·have h : (0 : Rat) ≤ ((Vk .f32 (rk .f32 x) : Nat) : Rat) := by exact_mod_cast Nat.zero_le _
  rw [← e] at h;refine le_of_mul (dn_pos .f32) ?_;rw [Rat.zero_mul];exact h
 ·rw [show sgn FloatKind.f32.format x = false from hs] at e; cases e
theorem sub_e {x y : Nat} (hx : rk .f32 x ≤ 1086324736) (hy : rk .f32 y ≤ 1086324736) : near (1 / 8388608 * ab (fr .f32 x - fr .f32 y)) (fr .f32 (fsub .f32 x y)) (fr .f32 x - fr .f32 y) := by
 have := sub_E (k := .f32) (fin_of hx (by decide)) (fin_of hy (by decide)) (fin_of (mg_sub hx hy q6) (by decide))
 rw [ep32] at this
 exact this
theorem mul_e {x y : Nat} (hx : rk .f32 x < inf .f32) (hy : rk .f32 y < inf .f32) (hz : rk .f32 (fmul .f32 x y) < inf .f32) : near (1 / 8388608 * ab (fr .f32 x * fr .f32 y) + et .f32) (fr .f32 (fmul .f32 x y)) (fr .f32 x * fr .f32 y) := by
 have := mul_E (k := .f32) hx hy hz
 rw [ep32] at this
 exact this
theorem add_e {x y : Nat} (hx : rk .f32 x < inf .f32) (hy : rk .f32 y < inf .f32) (hz : rk .f32 (fadd .f32 x y) < inf .f32) : near (1 / 8388608 * ab (fr .f32 x + fr .f32 y)) (fr .f32 (fadd .f32 x y)) (fr .f32 x + fr .f32 y) := by
 have := add_E (k := .f32) hx hy hz
 rw [ep32] at this
 exact this
theorem dot_e {p : V3} (hp : vB 1140850688 p) :
  (rx p * rx p + ry p * ry p + rz p * rz p) * (1 - 3 / 8388608) - 4 * et .f32 ≤ fr .f32 (dotV p p) ∧ fr .f32 (dotV p p) ≤ (rx p * rx p + ry p * ry p + rz p * rz p) * (1 + 4 / 8388608) + 4 * et .f32 := by
 have h1 := mg_add (sq_B hp.1) (sq_B hp.2.1) q18
 have f1 := fin_of hp.1 (by decide); have f2 := fin_of hp.2.1 (by decide); have f3 := fin_of hp.2.2 (by decide)
 have g1 := fin_of (sq_B hp.1) (by decide); have g2 := fin_of (sq_B hp.2.1) (by decide); have g3 := fin_of (sq_B hp.2.2) (by decide)
 have s1 := sq_sgn hp.1; have s2 := sq_sgn hp.2.1; have s3 := sq_sgn hp.2.2
 exact dot_near (Rat.le_of_lt (et_pos _)) (mul_e f1 f1 g1) (mul_e f2 f2 g2) (mul_e f3 f3 g3) (add_e g1 g2 (fin_of h1 (by decide))) (add_e (fin_of h1 (by decide)) g3 (fin_of (dot_B hp) (by decide))) (fr_nn s1) (fr_nn s2) (fr_nn s3) (fr_nn (add_sgn g1 g2 s1 s2))
theorem sq_mono {x : Rat} {m : Rat} (h : ab x ≤ m) : x * x ≤ m * m := by
 have h0 := ab_nonneg x
 have : ab x * ab x = x * x := by rw [← ab_mul, ab_pos (sq_nn _)]
 rw [← this]
 exact Rat.le_trans (mul_le_r h0 h) (Rat.mul_le_mul_of_nonneg_left h (Rat.le_trans h0 h))
theorem fr_zero {x : Nat} (h : rk .f32 x = 0) : fr .f32 x = 0 := by
 have := ab_fr (k := .f32) x
 rw [h, show Vk .f32 0 = 0 from V_zero _] at this
 have hd := dn_pos .f32
 have h2 : ab (fr .f32 x) = 0 := mul_cancel hd (by rw [this, Rat.zero_mul]; rfl)
 grind [ab]
variable {a b c : V3}
end Vs
