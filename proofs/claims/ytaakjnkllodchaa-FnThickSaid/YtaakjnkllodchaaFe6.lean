/-
  No triangle is thicker than 1, nearly: the floats.
-/
import Derived.Test.YtaakjnkllodchaaFe5
set_option maxHeartbeats 4000000
namespace Vs
open Go Ieee
theorem ep32 : ep .f32 = 1 / 8388608 := by
 unfold ep
 rw [show FloatKind.f32.format.binade = 8388608 by decide]
 rfl
theorem et32 : et .f32 ≤ 1 / 1393796574908163946345982392040522594123776 := by
 have h1 : (1393796574908163946345982392040522594123776 : Nat) ≤ dn .f32 := by decide +kernel
 have h2 : (1393796574908163946345982392040522594123776 : Rat) ≤ (dn .f32 : Rat) := by exact_mod_cast h1
 have h3 := dn_pos .f32
 unfold et
 refine le_of_mul h3 ?_
 generalize (dn .f32 : Rat) = D at *
 have : 1 / D * D = 1 := by grind
 rw [this]
 grind
theorem near_diff {u v P Q E : Rat} (h1 : near (1 / 8388608 * ab u) P u) (h2 : near (1 / 8388608 * ab v) Q v) (h3 : near (1 / 8388608 * ab (v - u)) E (v - u)) : near (1 / 1000000 * (ab P + ab Q)) E (Q - P) := by
 obtain ⟨a1, a2⟩ := h1
 obtain ⟨b1, b2⟩ := h2
 obtain ⟨c1, c2⟩ := h3
 have d1 : ab (v - u) ≤ ab u + ab v := by grind [ab]
 have d2 : ab u ≤ ab P + 1 / 8388608 * ab u := by grind [ab]
 have d3 : ab v ≤ ab Q + 1 / 8388608 * ab v := by grind [ab]
 constructor <;> grind
theorem near_opp {v Q F : Rat} (h2 : near (1 / 8388608 * ab v) Q v) (h3 : near (1 / 8388608 * ab (-v)) F (-v)) : near (1 / 1000000 * ab Q) F (-Q) := by
 obtain ⟨b1, b2⟩ := h2
 obtain ⟨c1, c2⟩ := h3
 have d1 : ab (-v) = ab v := by grind [ab]
 have d3 : ab v ≤ ab Q + 1 / 8388608 * ab v := by grind [ab]
 constructor <;> grind
theorem near_crs {x y z w m n N W t : Rat} (ht : t ≤ 1 / 1393796574908163946345982392040522594123776) (hW : 1 / 70368744177664 ≤ W) (hs : x * x + y * y + z * z + w * w ≤ W)
  (h1 : near (1 / 8388608 * ab (x * y) + t) m (x * y)) (h2 : near (1 / 8388608 * ab (z * w) + t) n (z * w)) (h3 : near (1 / 8388608 * ab (m - n)) N (m - n)) : near (1 / 1000000 * W) N (x * y - z * w) := by
 obtain ⟨a1, a2⟩ := h1
 obtain ⟨b1, b2⟩ := h2
 obtain ⟨c1, c2⟩ := h3
 have d1 : ab (m - n) ≤ ab (x * y) + ab (z * w) + 1 / 8388608 * ab (x * y) + 1 / 8388608 * ab (z * w) + 2 * t := by grind [ab]
 have e1 : ab (x * y) ≤ (x * x + y * y) / 2 := by have := sq_nn (x - y);have := sq_nn (x + y);exact ab_le (by grind) (by grind)
 have e2 : ab (z * w) ≤ (z * z + w * w) / 2 := by have := sq_nn (z - w);have := sq_nn (z + w);exact ab_le (by grind) (by grind)
 generalize ab (x * y) = A at *
 generalize ab (z * w) = B at *
 constructor <;> grind
theorem dot_near {x y z a b c s D t : Rat} (ht0 : 0 ≤ t) (h1 : near (1 / 8388608 * ab (x * x) + t) a (x * x)) (h2 : near (1 / 8388608 * ab (y * y) + t) b (y * y)) (h3 : near (1 / 8388608 * ab (z * z) + t) c (z * z))
  (h4 : near (1 / 8388608 * ab (a + b)) s (a + b)) (h5 : near (1 / 8388608 * ab (s + c)) D (s + c)) (ha : 0 ≤ a) (hb : 0 ≤ b) (hc : 0 ≤ c) (hs : 0 ≤ s) :
  (x * x + y * y + z * z) * (1 - 3 / 8388608) - 4 * t ≤ D ∧ D ≤ (x * x + y * y + z * z) * (1 + 4 / 8388608) + 4 * t := by
 have sx := sq_nn x; have sy := sq_nn y; have sz := sq_nn z
 rw [ab_pos sx] at h1
 rw [ab_pos sy] at h2
 rw [ab_pos sz] at h3
 rw [ab_pos (by grind)] at h4
 rw [ab_pos (by grind)] at h5
 obtain ⟨a1, a2⟩ := h1
 obtain ⟨b1, b2⟩ := h2
 obtain ⟨c1, c2⟩ := h3
 obtain ⟨d1, d2⟩ := h4
 obtain ⟨e1, e2⟩ := h5
 generalize x * x = X at *
 generalize y * y = Y at *
 generalize z * z = Z at *
 constructor <;> grind
def rx (v : V3) : Rat := fr .f32 v.x
def ry (v : V3) : Rat := fr .f32 v.y
def rz (v : V3) : Rat := fr .f32 v.z
theorem fr_nn {x : Nat} (hs : sgn single x = false) : 0 ≤ fr .f32 x := by
 rcases fr_cases (k := .f32) x with ⟨_, e⟩ | ⟨e, _⟩
 ·have h : (0 : Rat) ≤ ((Vk .f32 (rk .f32 x) : Nat) : Rat) := by exact_mod_cast Nat.zero_le _
  rw [← e] at h;refine le_of_mul (dn_pos .f32) ?_;rw [Rat.zero_mul];exact h
 ·rw [show sgn FloatKind.f32.format x = false from hs] at e; cases e
theorem sub_e {x y : Nat} (hx : rk .f32 x ≤ 1086324736) (hy : rk .f32 y ≤ 1086324736) : near (1 / 8388608 * ab (fr .f32 x - fr .f32 y)) (fr .f32 (fsub .f32 x y)) (fr .f32 x - fr .f32 y) := by
 have := sub_E (k := .f32) (fin_of hx (by decide)) (fin_of hy (by decide)) (fin_of (mg_sub hx hy q6) (by decide))
 rw [ep32] at this
 exact this
theorem mul_e {x y : Nat} (hx : rk .f32 x < inf .f32) (hy : rk .f32 y < inf .f32) (hz : rk .f32 (fmul .f32 x y) < inf .f32) : near (1 / 8388608 * ab (fr .f32 x * fr .f32 y) + et .f32) (fr .f32 (fmul .f32 x y)) (fr .f32 x * fr .f32 y) := by
 have := mul_E (k := .f32) hx hy hz
 rw [ep32] at this
 exact this
theorem add_e {x y : Nat} (hx : rk .f32 x < inf .f32) (hy : rk .f32 y < inf .f32) (hz : rk .f32 (fadd .f32 x y) < inf .f32) : near (1 / 8388608 * ab (fr .f32 x + fr .f32 y)) (fr .f32 (fadd .f32 x y)) (fr .f32 x + fr .f32 y) := by
 have := add_E (k := .f32) hx hy hz
 rw [ep32] at this
 exact this
theorem dot_e {p : V3} (hp : vB 1140850688 p) :
  (rx p * rx p + ry p * ry p + rz p * rz p) * (1 - 3 / 8388608) - 4 * et .f32 ≤ fr .f32 (dotV p p) ∧ fr .f32 (dotV p p) ≤ (rx p * rx p + ry p * ry p + rz p * rz p) * (1 + 4 / 8388608) + 4 * et .f32 := by
 have h1 := mg_add (sq_B hp.1) (sq_B hp.2.1) q18
 have f1 := fin_of hp.1 (by decide); have f2 := fin_of hp.2.1 (by decide); have f3 := fin_of hp.2.2 (by decide)
 have g1 := fin_of (sq_B hp.1) (by decide); have g2 := fin_of (sq_B hp.2.1) (by decide); have g3 := fin_of (sq_B hp.2.2) (by decide)
 have s1 := sq_sgn hp.1; have s2 := sq_sgn hp.2.1; have s3 := sq_sgn hp.2.2
 exact dot_near (Rat.le_of_lt (et_pos _)) (mul_e f1 f1 g1) (mul_e f2 f2 g2) (mul_e f3 f3 g3) (add_e g1 g2 (fin_of h1 (by decide))) (add_e (fin_of h1 (by decide)) g3 (fin_of (dot_B hp) (by decide))) (fr_nn s1) (fr_nn s2) (fr_nn s3) (fr_nn (add_sgn g1 g2 s1 s2))
theorem gr_val {x : Nat} (hg : gr .f32 126 x) (h0 : 0 < rk .f32 x) : 1 / 70368744177664 ≤ fr .f32 x * fr .f32 x := by
 have h1 : 0 < Vk .f32 (rk .f32 x) := V_pos h0
 have h2 := Nat.le_of_dvd h1 hg
 have h3 : ((2 ^ 126 : Nat) : Rat) ≤ ((Vk .f32 (rk .f32 x) : Nat) : Rat) := by exact_mod_cast h2
 rw [← ab_fr, ← tp_nat] at h3
 have hd := dn_pos .f32
 have h4 : tp (-23) ≤ ab (fr .f32 x) := by
  refine le_of_mul hd ?_;have : tp (-23) * (dn .f32 : Rat) = tp ((126 : Nat) : Int) := by
   rw [dn_tp, show -FloatKind.f32.format.leastPlace = 149 by decide, ← tp_add]
   congr 1
  rw [this];exact h3
 have h5 : ab (fr .f32 x) * ab (fr .f32 x) = fr .f32 x * fr .f32 x := by rw [← ab_mul, ab_pos (sq_nn _)]
 have h6 : tp (-23) * tp (-23) = 1 / 70368744177664 := by
  rw [← tp_add];have a1 : tp (-23 + -23) * tp 46 = 1 := by rw [← tp_add]; exact tp_zero
  have a2 : tp 46 = 70368744177664 := by unfold tp; rfl
  rw [a2] at a1
  grind
 rw [← h5, ← h6]
 exact Rat.le_trans (mul_le_r (Rat.le_of_lt (tp_pos _)) h4) (Rat.mul_le_mul_of_nonneg_left h4 (ab_nonneg _))
theorem sum_low {d1 d2 d3 s1 s2 s3 u S : Rat} (h1 : near (1 / 8388608 * ab (d1 + d2)) u (d1 + d2)) (h2 : near (1 / 8388608 * ab (u + d3)) S (u + d3)) (p1 : 0 ≤ d1) (p2 : 0 ≤ d2) (p3 : 0 ≤ d3) (pu : 0 ≤ u) {t : Rat} (ht : t ≤ 1 / 1393796574908163946345982392040522594123776)
  (e1 : s1 * (1 - 3 / 8388608) - 4 * t ≤ d1) (e2 : s2 * (1 - 3 / 8388608) - 4 * t ≤ d2) (e3 : s3 * (1 - 3 / 8388608) - 4 * t ≤ d3) (hW : 1 / 140737488355328 ≤ s1 + s3) : (s1 + s2 + s3) * (999999 / 1000000) ≤ S := by
 rw [ab_pos (by grind)] at h1
 rw [ab_pos (by grind)] at h2
 obtain ⟨a1, a2⟩ := h1
 obtain ⟨b1, b2⟩ := h2
 grind
theorem opp_sq {q f : Rat} (h : near (1 / 1000000 * ab q) f (-q)) : q * q * (1 / 2) ≤ f * f := by
 obtain ⟨h1, h2⟩ := h
 have d : ab q ≤ ab f + 1 / 1000000 * ab q := by grind [ab]
 have e1 : ab f * ab f = f * f := by rw [← ab_mul, ab_pos (sq_nn _)]
 have e2 : ab q * ab q = q * q := by rw [← ab_mul, ab_pos (sq_nn _)]
 have n1 := ab_nonneg q
 have n2 := ab_nonneg f
 have a1 : ab q * (999999 / 1000000) ≤ ab f := by grind
 have a2 := mul_le_r n1 a1
 have a3 := Rat.mul_le_mul_of_nonneg_left a1 n2
 have a4 := mul_nn n1 n1
 rw [← e1, ← e2]
 grind
theorem fr_zero {x : Nat} (h : rk .f32 x = 0) : fr .f32 x = 0 := by
 have := ab_fr (k := .f32) x
 rw [h, show Vk .f32 0 = 0 from V_zero _] at this
 have hd := dn_pos .f32
 have h2 : ab (fr .f32 x) = 0 := mul_cancel hd (by rw [this, Rat.zero_mul]; rfl)
 grind [ab]
theorem kk_le : fr .f32 1079882711 * fr .f32 1079882711 ≤ 12 + 1 / 1000000 ∧ 0 ≤ fr .f32 1079882711 := by
 have h1 : Vk .f32 (rk .f32 1079882711) = 14529495 * 2 ^ 127 := by decide +kernel
 have h2 : fr .f32 1079882711 * (dn .f32 : Rat) = ((14529495 * 2 ^ 127 : Nat) : Rat) := by
  rcases fr_cases (k := .f32) 1079882711 with ⟨_, e⟩ | ⟨e, _⟩
  ·rw [e, h1]
  ·exact absurd e (by decide)
 have h3 : dn .f32 = 4194304 * 2 ^ 127 := by decide +kernel
 have hd := dn_pos .f32
 rw [h3, Rat.natCast_mul, Rat.natCast_mul] at h2
 have hp : (0 : Rat) < ((2 ^ 127 : Nat) : Rat) := Rat.natCast_pos.2 (Nat.two_pow_pos _)
 rw [← Rat.mul_assoc] at h2
 have h4 : fr .f32 1079882711 * ((4194304 : Nat) : Rat) = ((14529495 : Nat) : Rat) := mul_cancel hp h2
 have h5 : fr .f32 1079882711 = 14529495 / 4194304 := by
  have e1 : ((4194304 : Nat) : Rat) = 4194304 := rfl;have e2 : ((14529495 : Nat) : Rat) = 14529495 := rfl;rw [e1, e2] at h4
  grind
 rw [h5]
 constructor <;> grind
theorem div_le {x y q : Nat} (hx : rk .f32 x < inf .f32) (hy : rk .f32 y < inf .f32) (h0 : rk .f32 y ≠ 0) (sx : sgn single x = false) (sy : sgn single y = false) (hq : q < inf .f32) (sq : rk .f32 q = q) (gq : sgn single q = false) (h : fr .f32 x ≤ fr .f32 q * fr .f32 y) : rk .f32 (fdiv .f32 x y) ≤ q := by
 obtain ⟨r, e, hr⟩ := fdiv_R (k := .f32) hx hy h0
 rw [e, rk_word hr.1]
 refine hr.2.1 q (Nat.le_of_lt hq) ?_
 have pos : ∀ z, sgn single z = false → fr .f32 z * (dn .f32 : Rat) = ((Vk .f32 (rk .f32 z) : Nat) : Rat) := fun z hz => by
  rcases fr_cases (k := .f32) z with ⟨_, e⟩ | ⟨e, _⟩
  ·exact e
  ·rw [show sgn FloatKind.f32.format z = false from hz] at e; cases e
 have a1 := pos x sx; have a2 := pos y sy; have a3 := pos q gq
 rw [sq] at a3
 have hd := dn_pos .f32
 have b1 := mul_le_r (Rat.le_of_lt hd) (mul_le_r (Rat.le_of_lt hd) h)
 have b2 : ((Vk .f32 (rk .f32 x) : Nat) : Rat) * (dn .f32 : Rat) ≤ ((Vk .f32 q : Nat) : Rat) * ((Vk .f32 (rk .f32 y) : Nat) : Rat) := by
  rw [← a1, ← a2, ← a3];generalize (dn .f32 : Rat) = D at *
  grind
 exact_mod_cast b2
theorem q_val : 1 + 88 / 100000 ≤ fr .f32 1065360768 := by
 have h1 : Vk .f32 (rk .f32 1065360768) = 8396160 * 2 ^ 126 := by decide +kernel
 have h2 : fr .f32 1065360768 * (dn .f32 : Rat) = ((8396160 * 2 ^ 126 : Nat) : Rat) := by
  rcases fr_cases (k := .f32) 1065360768 with ⟨_, e⟩ | ⟨e, _⟩
  ·rw [e, h1]
  ·exact absurd e (by decide)
 have h3 : dn .f32 = 8388608 * 2 ^ 126 := by decide +kernel
 have hd := dn_pos .f32
 rw [h3, Rat.natCast_mul, Rat.natCast_mul] at h2
 have hp : (0 : Rat) < ((2 ^ 126 : Nat) : Rat) := Rat.natCast_pos.2 (Nat.two_pow_pos _)
 rw [← Rat.mul_assoc] at h2
 have h4 : fr .f32 1065360768 * ((8388608 : Nat) : Rat) = ((8396160 : Nat) : Rat) := mul_cancel hp h2
 have e1 : ((8388608 : Nat) : Rat) = 8388608 := rfl
 have e2 : ((8396160 : Nat) : Rat) = 8396160 := rfl
 rw [e1, e2] at h4
 grind
theorem sub_z {x y : Nat} (hx : rk .f32 x < inf .f32) (hy : rk .f32 y < inf .f32) : rk .f32 (fsub .f32 x y) = 0 ↔ sv .f32 x = sv .f32 y := by
 rw [rk_sub hx hy]
 constructor
 ·intro h
  rcases Nat.eq_zero_or_pos (sv .f32 x - sv .f32 y).natAbs with h0 | h0
  ·omega
  ·have : 1 ≤ rungN single (sv .f32 x - sv .f32 y).natAbs single.leastPlace := le_rung okS (Int.le_refl _) (by decide) (by
    rw [show V single 1 * 2 ^ (single.leastPlace - single.leastPlace).toNat = 1 by decide]
    exact h0)
   have h' : rungN single (sv .f32 x - sv .f32 y).natAbs single.leastPlace = 0 := h;omega
 ·intro h
  rw [h, Int.sub_self];unfold rungN;rw [if_pos (by rfl)]
theorem rungN_0 (f : Format) (B : Int) : rungN f 0 B = 0 := by unfold rungN; rw [if_pos rfl]
theorem mul_z {x y : Nat} (hx : rk .f32 x = 0) (hy : rk .f32 y = 0) : rk .f32 (fmul .f32 x y) = 0 := by
 have h1 : rk .f32 x < inf .f32 := by rw [hx]; decide
 have h2 : rk .f32 y < inf .f32 := by rw [hy]; decide
 rw [rk_mul h1 h2, hx, show Vk .f32 0 = 0 from V_zero _, Nat.zero_mul, rungN_0]
 exact rk_word (Nat.zero_le _)
theorem sq_z {x : Nat} (hx : rk .f32 x = 0) : fmul .f32 x x = 0 := by
 have h1 : rk .f32 x < inf .f32 := by rw [hx]; decide
 rw [rk_mul h1 h1, hx, show Vk .f32 0 = 0 from V_zero _, Nat.zero_mul, rungN_0, Bool.xor_self]
 rfl
def vZ (v : V3) : Prop := rk .f32 v.x = 0 ∧ rk .f32 v.y = 0 ∧ rk .f32 v.z = 0
theorem add_00 : fadd .f32 0 0 = 0 := by decide +kernel
theorem dot_z {p : V3} (h : vZ p) : dotV p p = 0 := by
 show fadd .f32 (fadd .f32 (fmul .f32 p.x p.x) (fmul .f32 p.y p.y)) (fmul .f32 p.z p.z) = 0
 rw [sq_z h.1, sq_z h.2.1, sq_z h.2.2, add_00, add_00]
theorem sv_z {x : Nat} (h : rk .f32 x = 0) : sv .f32 x = 0 := by
 have := sv_abs .f32 x
 rw [h, show Vk .f32 0 = 0 from V_zero _] at this
 omega
theorem sub_zz {x y : Nat} (hx : rk .f32 x = 0) (hy : rk .f32 y = 0) : rk .f32 (fsub .f32 x y) = 0 :=
 (sub_z (by rw [hx]; decide) (by rw [hy]; decide)).2 (by rw [sv_z hx, sv_z hy])
theorem cross_z {p q : V3} (hp : vZ p) (hq : vZ q) : vZ (crossV p q) :=
 ⟨sub_zz (mul_z hp.2.1 hq.2.2) (mul_z hp.2.2 hq.2.1), sub_zz (mul_z hp.2.2 hq.1) (mul_z hp.1 hq.2.2), sub_zz (mul_z hp.1 hq.2.1) (mul_z hp.2.1 hq.1)⟩
theorem less_z {v w : V3} (hv : vB 1086324736 v) (hw : vB 1086324736 w) : vZ (lessV v w) ↔ sv .f32 v.x = sv .f32 w.x ∧ sv .f32 v.y = sv .f32 w.y ∧ sv .f32 v.z = sv .f32 w.z := by
 unfold vZ lessV
 simp only
 rw [sub_z (fin_of hv.1 (by decide)) (fin_of hw.1 (by decide)), sub_z (fin_of hv.2.1 (by decide)) (fin_of hw.2.1 (by decide)), sub_z (fin_of hv.2.2 (by decide)) (fin_of hw.2.2 (by decide))]
theorem nan_thick : feq .f32 (fdiv .f32 0 0) (fdiv .f32 0 0) = false ∧ fgt .f64 (wide (fdiv .f32 0 0)) 4607186922399644778 = false := by decide +kernel
theorem vZ_or {p : V3} (g : vG 126 p) : vZ p ∨ 1 / 70368744177664 ≤ rx p * rx p + ry p * ry p + rz p * rz p := by
 have sx := sq_nn (rx p); have sy := sq_nn (ry p); have sz := sq_nn (rz p)
 rcases Nat.eq_zero_or_pos (rk .f32 p.x) with h1 | h1
 ·rcases Nat.eq_zero_or_pos (rk .f32 p.y) with h2 | h2
  ·rcases Nat.eq_zero_or_pos (rk .f32 p.z) with h3 | h3
   ·exact .inl ⟨h1, h2, h3⟩
   ·right
    have := gr_val g.2.2 h3;unfold rz at *
    grind
  ·right
   have := gr_val g.2.1 h2;unfold ry at *
   grind
 ·right
  have := gr_val g.1 h1;unfold rx at *
  grind
theorem sv_le (x : Nat) : sv .f32 x ≤ (Vk .f32 (rk .f32 x) : Int) := by
 have := sv_abs .f32 x
 omega
theorem le_one {x : Nat} (h : rk .f32 x ≤ 1065360768) : fgt .f64 (wide x) 4607186922399644778 = false := by
 have hx : rk .f32 x < inf .f32 := fin_of h (by decide)
 obtain ⟨w1, w2, _⟩ := wide_sv hx
 rw [fgt_R w1 (by decide)]
 refine decide_eq_false ?_
 rw [w2]
 have h1 : (Vk .f32 1065360768 : Int) * (cw : Int) ≤ sv .f64 4607186922399644778 := by decide +kernel
 have h2 : sv .f32 x ≤ (Vk .f32 1065360768 : Int) := Int.le_trans (sv_le x) (by exact_mod_cast V_mono single h)
 have h3 := Int.mul_le_mul_of_nonneg_right h2 (Int.natCast_nonneg cw)
 omega
theorem x_up {n1 n2 n3 X t W : Rat} (h : X ≤ (n1 + n2 + n3) * (1 + 4 / 8388608) + 4 * t) (ht : t ≤ 1 / 1393796574908163946345982392040522594123776) (hw : 1 / 70368744177664 * (1 / 70368744177664) ≤ W) (m1 : 0 ≤ n1) (m2 : 0 ≤ n2) (m3 : 0 ≤ n3) :
  X ≤ (n1 + n2 + n3) * (1000001 / 1000000) + 1 / 1000000 * (1 / 1000000) * W := by
 have h1 : 4 * t ≤ 1 / 1000000 * (1 / 1000000) * W := by grind
 grind
theorem s_up {p1 p2 p3 q1 q2 q3 e1 e2 e3 f1 f2 f3 S : Rat} (hS : (p1 + p2 + p3 + (e1 + e2 + e3) + (f1 + f2 + f3)) * (999999 / 1000000) ≤ S) (hW : 1 / 70368744177664 ≤ p1 + p2 + p3 + (q1 + q2 + q3)) (n1 : 0 ≤ e1) (n2 : 0 ≤ e2) (n3 : 0 ≤ e3)
  (m1 : q1 * (1 / 2) ≤ f1) (m2 : q2 * (1 / 2) ≤ f2) (m3 : q3 * (1 / 2) ≤ f3) (l1 : 0 ≤ p1) (l2 : 0 ≤ p2) (l3 : 0 ≤ p3) : 1 / 281474976710656 ≤ S := by grind
theorem t_up {z kl S q t : Rat} (u1 : z - kl ≤ 1 / 8388608 * kl + t) (h : kl ≤ S + S / 1000 * (7 / 10)) (hq : (1 + 88 / 100000) * S ≤ q * S) (hS : 1 / 281474976710656 ≤ S) (ht : t ≤ 1 / 1393796574908163946345982392040522594123776) : z ≤ q * S := by grind
variable {a b c : V3}
theorem thick_one (ha : vB 1086324736 a) (hb : vB 1086324736 b) (hc : vB 1086324736 c) (ga : vG 126 a) (gb : vG 126 b) (gc : vG 126 c) :
  (rk .f32 (thickP a b c) < inf .f32 ∨ feq .f32 (thickP a b c) (thickP a b c) = false) ∧ fgt .f64 (wide (thickP a b c)) 4607186922399644778 = false := by
 have p1 := less_B hb ha; have p2 := less_B hc ha; have p3 := less_B hc hb; have p4 := less_B ha hc
 have g1 := less_G hb ha gb ga; have g2 := less_G hc ha gc ga
 by_cases hz : vZ (lessV b a) ∧ vZ (lessV c a)
 ·obtain ⟨z1, z2⟩ := hz
  have w1 := (less_z hb ha).1 z1;have w2 := (less_z hc ha).1 z2;have z3 : vZ (lessV c b) := (less_z hc hb).2 ⟨by rw [w2.1, w1.1], by rw [w2.2.1, w1.2.1], by rw [w2.2.2, w1.2.2]⟩
  have z4 : vZ (lessV a c) := (less_z ha hc).2 ⟨w2.1.symm, w2.2.1.symm, w2.2.2.symm⟩;have e1 : sumP a b c = 0 := by unfold sumP;rw [dot_z z1, dot_z z3, dot_z z4, add_00, add_00]
  have e2 : nlP a b c = 0 := by
   unfold nlP normT;rw [long_eq, dot_z (cross_z z1 z2), rootP_zero (by decide) (by decide)]
   decide +kernel
  rw [thick_eq, e1, e2];exact ⟨.inr nan_thick.1, nan_thick.2⟩
 ·have hW : 1 / 70368744177664 ≤ (rx (lessV b a) * rx (lessV b a) + ry (lessV b a) * ry (lessV b a) + rz (lessV b a) * rz (lessV b a)) + (rx (lessV c a) * rx (lessV c a) + ry (lessV c a) * ry (lessV c a) + rz (lessV c a) * rz (lessV c a)) := by
   have n1 := sq_nn (rx (lessV b a)); have n2 := sq_nn (ry (lessV b a)); have n3 := sq_nn (rz (lessV b a));have m1 := sq_nn (rx (lessV c a)); have m2 := sq_nn (ry (lessV c a)); have m3 := sq_nn (rz (lessV c a))
   rcases vZ_or g1 with h1 | h1
   ·rcases vZ_or g2 with h2 | h2
    ·exact absurd ⟨h1, h2⟩ hz
    ·grind
   ·grind
  have ht := et32;have ht0 := Rat.le_of_lt (et_pos .f32);have dx : ∀ {v w : Nat}, rk .f32 v ≤ 1086324736 → rk .f32 w ≤ 1086324736 → near (1 / 8388608 * ab (fr .f32 v - fr .f32 w)) (fr .f32 (fsub .f32 v w)) (fr .f32 v - fr .f32 w) := fun h1 h2 => sub_e h1 h2
  have ne : ∀ {u v w : Nat}, rk .f32 u ≤ 1086324736 → rk .f32 v ≤ 1086324736 → rk .f32 w ≤ 1086324736 → near (1 / 1000000 * (ab (fr .f32 (fsub .f32 v u)) + ab (fr .f32 (fsub .f32 w u)))) (fr .f32 (fsub .f32 w v)) (fr .f32 (fsub .f32 w u) - fr .f32 (fsub .f32 v u)) := fun {u v w} h1 h2 h3 => by
   refine near_diff (dx h2 h1) (dx h3 h1) ?_;have e : fr .f32 w - fr .f32 u - (fr .f32 v - fr .f32 u) = fr .f32 w - fr .f32 v := by grind
   rw [e];exact dx h3 h2
  have no : ∀ {u w : Nat}, rk .f32 u ≤ 1086324736 → rk .f32 w ≤ 1086324736 → near (1 / 1000000 * ab (fr .f32 (fsub .f32 w u))) (fr .f32 (fsub .f32 u w)) (-(fr .f32 (fsub .f32 w u))) := fun {u w} h1 h2 => by
   refine near_opp (dx h2 h1) ?_;have e : -(fr .f32 w - fr .f32 u) = fr .f32 u - fr .f32 w := by grind
   rw [e];exact dx h1 h2
  have e1 := ne ha.1 hb.1 hc.1; have e2 := ne ha.2.1 hb.2.1 hc.2.1; have e3 := ne ha.2.2 hb.2.2 hc.2.2;have f1 := no ha.1 hc.1; have f2 := no ha.2.1 hc.2.1; have f3 := no ha.2.2 hc.2.2;have crs : ∀ {x y z w : Nat}, rk .f32 x ≤ 1098907648 → rk .f32 y ≤ 1098907648 → rk .f32 z ≤ 1098907648 → rk .f32 w ≤ 1098907648 → ∀ {W : Rat}, 1 / 70368744177664 ≤ W → fr .f32 x * fr .f32 x + fr .f32 y * fr .f32 y + fr .f32 z * fr .f32 z + fr .f32 w * fr .f32 w ≤ W → near (1 / 1000000 * W) (fr .f32 (fsub .f32 (fmul .f32 x y) (fmul .f32 z w))) (fr .f32 x * fr .f32 y - fr .f32 z * fr .f32 w) := fun {x y z w} hx hy hz hw {W} hW hs => by
   have m1 := fin_of (mul16 hx hy) (by decide)
   have m2 := fin_of (mul16 hz hw) (by decide)
   refine near_crs ht hW hs (mul_e (fin_of hx (by decide)) (fin_of hy (by decide)) m1) (mul_e (fin_of hz (by decide)) (fin_of hw (by decide)) m2) ?_
   have := sub_E (k := .f32) m1 m2 (fin_of (crs_1 hx hy hz hw) (by decide))
   rw [ep32] at this;exact this
  have k1 := crs p1.2.1 p2.2.2 p1.2.2 p2.2.1 hW (by
   have n1 := sq_nn (rx (lessV b a)); have m1 := sq_nn (rx (lessV c a));unfold rx ry rz at *
   grind)
  have k2 := crs p1.2.2 p2.1 p1.1 p2.2.2 hW (by
   have n1 := sq_nn (ry (lessV b a)); have m1 := sq_nn (ry (lessV c a));unfold rx ry rz at *
   grind)
  have k3 := crs p1.1 p2.2.1 p1.2.1 p2.1 hW (by
   have n1 := sq_nn (rz (lessV b a)); have m1 := sq_nn (rz (lessV c a));unfold rx ry rz at *
   grind)
  have nB := cross_B p1 p2;have b1 := dot_B (up16 p1); have b2 := dot_B (up16 p3); have b3 := dot_B (up16 p4);have h1 := mg_add b1 b2 q20;have s1 := dot_sgn (up16 p1); have s2 := dot_sgn (up16 p3); have s3 := dot_sgn (up16 p4);have a1 := add_e (fin_of b1 (by decide)) (fin_of b2 (by decide)) (fin_of h1 (by decide))
  have a2 := add_e (fin_of h1 (by decide)) (fin_of b3 (by decide)) (fin_of (sum_B ha hb hc) (by decide))
  have hS := sum_low a1 a2 (fr_nn s1) (fr_nn s2) (fr_nn s3) (fr_nn (add_sgn (fin_of b1 (by decide)) (fin_of b2 (by decide)) s1 s2)) ht (dot_e (up16 p1)).1 (dot_e (up16 p3)).1 (dot_e (up16 p4)).1 (by
   have o1 := opp_sq f1; have o2 := opp_sq f2; have o3 := opp_sq f3;have n1 := sq_nn (rx (lessV b a)); have n2 := sq_nn (ry (lessV b a)); have n3 := sq_nn (rz (lessV b a));have m1 : rx (lessV c a) * rx (lessV c a) * (1 / 2) ≤ rx (lessV a c) * rx (lessV a c) := o1;have m2 : ry (lessV c a) * ry (lessV c a) * (1 / 2) ≤ ry (lessV a c) * ry (lessV a c) := o2;have m3 : rz (lessV c a) * rz (lessV c a) * (1 / 2) ≤ rz (lessV a c) * rz (lessV a c) := o3
   grind)
  have hSe : fr .f32 (fadd .f32 (fadd .f32 (dotV (lessV b a) (lessV b a)) (dotV (lessV c b) (lessV c b))) (dotV (lessV a c) (lessV a c))) = fr .f32 (sumP a b c) := rfl;rw [hSe] at hS;have xB := dot_B nB;have xs := dot_sgn nB;have hX0 := fr_nn xs;have hXe := (dot_e nB).2;have hL : fr .f32 (rootP (dotV (crossV (lessV b a) (lessV c a)) (crossV (lessV b a) (lessV c a)))) * fr .f32 (rootP (dotV (crossV (lessV b a) (lessV c a)) (crossV (lessV b a) (lessV c a)))) ≤ fr .f32 (dotV (crossV (lessV b a) (lessV c a)) (crossV (lessV b a) (lessV c a))) + fr .f32 (dotV (crossV (lessV b a) (lessV c a)) (crossV (lessV b a) (lessV c a))) / 1000000 := by
   rcases Nat.eq_zero_or_pos (rk .f32 (dotV (crossV (lessV b a) (lessV c a)) (crossV (lessV b a) (lessV c a)))) with h0 | h0
   ·rw [rootP_zero h0 xs, fr_zero (show rk .f32 0 = 0 by decide)]
    grind
   ·have := (root_E (fin_of xB (by decide)) xs h0).1.2.1
    grind
  have lB := root_mag (fin_of xB (by decide)) xs
  have ls : sgn single (rootP (dotV (crossV (lessV b a) (lessV c a)) (crossV (lessV b a) (lessV c a)))) = false := by
   rw [(rootP_N (fin_of xB (by decide)) xs).1]
   exact word_sgn okS (Nat.le_of_lt (rootP_N (fin_of xB (by decide)) xs).2)
  have hkl := mul_e (x := 1079882711) (by decide) (fin_of lB (by decide)) (fin_of (mg_mul (by decide) lB qk) (by decide))
  have nls : sgn single (nlP a b c) = false := by
   obtain ⟨q, e, hr⟩ := fmul_R (k := .f32) (x := 1079882711) (y := rootP (dotV (crossV (lessV b a) (lessV c a)) (crossV (lessV b a) (lessV c a)))) (by decide) (fin_of lB (by decide))
   show sgn single (fmul .f32 1079882711 (rootP (dotV (crossV (lessV b a) (lessV c a)) (crossV (lessV b a) (lessV c a))))) = false;rw [e, show sgn FloatKind.f32.format 1079882711 = false by decide, show sgn FloatKind.f32.format (rootP (dotV (crossV (lessV b a) (lessV c a)) (crossV (lessV b a) (lessV c a)))) = false from ls]
   exact sgn_word (k := .f32) hr.1
  have hkle : fr .f32 (fmul .f32 1079882711 (rootP (dotV (crossV (lessV b a) (lessV c a)) (crossV (lessV b a) (lessV c a))))) = fr .f32 (nlP a b c) := rfl;rw [hkle] at hkl;have hnb : rk .f32 (nlP a b c) < inf .f32 := fin_of (mg_mul (by decide) lB qk) (by decide)
  have hLn := fr_nn ls;generalize rootP (dotV (crossV (lessV b a) (lessV c a)) (crossV (lessV b a) (lessV c a))) = Lw at *
  have res := thick_real e1 e2 e3 f1 f2 f3 k1 k2 k3 hS (X := fr .f32 (dotV (crossV (lessV b a) (lessV c a)) (crossV (lessV b a) (lessV c a)))) (by
   have w2 : 1 / 70368744177664 * (1 / 70368744177664) ≤ ((rx (lessV b a) * rx (lessV b a) + ry (lessV b a) * ry (lessV b a) + rz (lessV b a) * rz (lessV b a)) + (rx (lessV c a) * rx (lessV c a) + ry (lessV c a) * ry (lessV c a) + rz (lessV c a) * rz (lessV c a))) * ((rx (lessV b a) * rx (lessV b a) + ry (lessV b a) * ry (lessV b a) + rz (lessV b a) * rz (lessV b a)) + (rx (lessV c a) * rx (lessV c a) + ry (lessV c a) * ry (lessV c a) + rz (lessV c a) * rz (lessV c a))) :=
    Rat.le_trans (mul_le_r (by grind) hW) (Rat.mul_le_mul_of_nonneg_left hW (by grind))
   have m1 := sq_nn (rx (crossV (lessV b a) (lessV c a))); have m2 := sq_nn (ry (crossV (lessV b a) (lessV c a))); have m3 := sq_nn (rz (crossV (lessV b a) (lessV c a)))
   exact x_up hXe ht w2 m1 m2 m3) hL kk_le.1 hX0
  have hS1 : 1 / 281474976710656 ≤ fr .f32 (sumP a b c) := by have n1 := sq_nn (rx (lessV c b)); have n2 := sq_nn (ry (lessV c b)); have n3 := sq_nn (rz (lessV c b));have o1 := opp_sq f1; have o2 := opp_sq f2; have o3 := opp_sq f3;have m1 : rx (lessV c a) * rx (lessV c a) * (1 / 2) ≤ rx (lessV a c) * rx (lessV a c) := o1;have m2 : ry (lessV c a) * ry (lessV c a) * (1 / 2) ≤ ry (lessV a c) * ry (lessV a c) := o2;have m3 : rz (lessV c a) * rz (lessV c a) * (1 / 2) ≤ rz (lessV a c) * rz (lessV a c) := o3;have l1 := sq_nn (rx (lessV b a)); have l2 := sq_nn (ry (lessV b a)); have l3 := sq_nn (rz (lessV b a));exact s_up hS hW n1 n2 n3 m1 m2 m3 l1 l2 l3
  have hS0 : rk .f32 (sumP a b c) ≠ 0 := fun h => by
   rw [fr_zero h] at hS1
   grind
  have hle : fr .f32 (nlP a b c) ≤ fr .f32 1065360768 * fr .f32 (sumP a b c) := by
   have hq := mul_le_r (show 0 ≤ fr .f32 (sumP a b c) by grind) q_val
   rw [ab_pos (mul_nn kk_le.2 hLn)] at hkl;obtain ⟨u1, _⟩ := hkl;exact t_up u1 res hq hS1 ht
  have hT := div_le hnb (fin_of (sum_B ha hb hc) (by decide)) hS0 nls (sum_sgn ha hb hc) (by decide) (by decide) (by decide) hle
  rw [thick_eq];exact ⟨.inl (fin_of hT (by decide)), le_one hT⟩
end Vs
