/-
  The point of meeting: each round keeps the place near, and the ways become no longer, nearly.
-/
import Derived.Test.YtbaijndhllhplaaFm3
set_option maxHeartbeats 4000000
namespace Vs
open Go Ieee
theorem q_m1 : (1073741824 : Nat) < inf .f32 ∧ 1711276032 < inf .f32 ∧ 1719664640 ≤ inf .f32 ∧ Vk .f32 1073741824 * Vk .f32 1711276032 ≤ Vk .f32 1719664640 * dn .f32 := by decide +kernel
theorem q_m2 : (1719664640 : Nat) < inf .f32 ∧ 1719664640 < inf .f32 ∧ 1728053248 ≤ inf .f32 ∧ Vk .f32 1719664640 + Vk .f32 1719664640 ≤ Vk .f32 1728053248 := by decide +kernel
theorem q_m3 : (1728053248 : Nat) < inf .f32 ∧ 1719664640 < inf .f32 ∧ 1736441856 ≤ inf .f32 ∧ Vk .f32 1728053248 + Vk .f32 1719664640 ≤ Vk .f32 1736441856 := by decide +kernel
theorem q_m4 : (1711276032 : Nat) < inf .f32 ∧ 1711276032 < inf .f32 ∧ 1719664640 ≤ inf .f32 ∧ Vk .f32 1711276032 + Vk .f32 1711276032 ≤ Vk .f32 1719664640 := by decide +kernel
theorem q_m5 : (1719664640 : Nat) < inf .f32 ∧ 1711276032 < inf .f32 ∧ 1728053248 ≤ inf .f32 ∧ Vk .f32 1719664640 + Vk .f32 1711276032 ≤ Vk .f32 1728053248 := by decide +kernel
theorem q_m6 : (1065353216 : Nat) < inf .f32 ∧ 0 < 1040187392 ∧ 1090519040 ≤ inf .f32 ∧ Vk .f32 1065353216 * dn .f32 ≤ Vk .f32 1090519040 * Vk .f32 1040187392 := by decide +kernel
theorem q_m7 : (1736441856 : Nat) < inf .f32 ∧ 1090519040 < inf .f32 ∧ 1761607680 ≤ inf .f32 ∧ Vk .f32 1736441856 * Vk .f32 1090519040 ≤ Vk .f32 1761607680 * dn .f32 := by decide +kernel
theorem V_8th : Vk .f32 1040187392 * 8 = dn .f32 := by decide +kernel
theorem rk_ge8 {t : Nat} (h : 1 / 8 ≤ fr .f32 t) : 1040187392 ≤ rk .f32 t := by
 refine V_le (f := single) ?_
 have h1 := ab_fr (k := .f32) t
 rw [ab_pos (by grind)] at h1
 have h2 := mul_le_r (Rat.le_of_lt (dn_pos .f32)) h
 rw [h1, ← V_8th] at h2
 have h3 : ((Vk .f32 1040187392 : Nat) : Rat) ≤ ((Vk .f32 (rk .f32 t) : Nat) : Rat) := by
  rw [Rat.natCast_mul] at h2;have e : ((8 : Nat) : Rat) = 8 := rfl;rw [e] at h2;generalize ((Vk .f32 1040187392 : Nat) : Rat) = A at *
  grind
 exact_mod_cast h3
def meanF (x1 x2 x3 u v w : Nat) : Nat := fmul .f32 (fadd .f32 (fadd .f32 (fmul .f32 x1 u) (fmul .f32 x2 v)) (fmul .f32 x3 w)) (part1 (fadd .f32 (fadd .f32 u v) w))
theorem mean_f {x1 x2 x3 u v w : Nat} (k1 : rk .f32 x1 ≤ 1073741824) (k2 : rk .f32 x2 ≤ 1073741824) (k3 : rk .f32 x3 ≤ 1073741824) (hu : rk .f32 u ≤ 1711276032) (hv : rk .f32 v ≤ 1711276032) (hw : rk .f32 w ≤ 1711276032)
  (b1 : ab (fr .f32 x1) ≤ 2) (b2 : ab (fr .f32 x2) ≤ 2) (b3 : ab (fr .f32 x3) ≤ 2) (u0 : 0 ≤ fr .f32 u) (v0 : 0 ≤ fr .f32 v) (w0 : 0 ≤ fr .f32 w) (hU : 3 / 10 ≤ fr .f32 u + fr .f32 v + fr .f32 w) (hU2 : fr .f32 u + fr .f32 v + fr .f32 w ≤ 1208925819614629174706176) :
  meanP (fr .f32 x1) (fr .f32 x2) (fr .f32 x3) (fr .f32 u) (fr .f32 v) (fr .f32 w) (fr .f32 (meanF x1 x2 x3 u v w)) ∧ ab (fr .f32 (meanF x1 x2 x3 u v w)) ≤ 2 + 1 / 500000 ∧ rk .f32 (meanF x1 x2 x3 u v w) < inf .f32 := by
 have f2 : ∀ {x : Nat}, rk .f32 x ≤ 1073741824 → rk .f32 x < inf .f32 := fun h => fin_of h (by decide)
 have f7 : ∀ {x : Nat}, rk .f32 x ≤ 1711276032 → rk .f32 x < inf .f32 := fun h => fin_of h (by decide)
 have m1 := mg_mul k1 hu q_m1; have m2 := mg_mul k2 hv q_m1; have m3 := mg_mul k3 hw q_m1
 have f8 : ∀ {x : Nat}, rk .f32 x ≤ 1719664640 → rk .f32 x < inf .f32 := fun h => fin_of h (by decide)
 have s1 := mg_add m1 m2 q_m2
 have s2 := mg_add s1 m3 q_m3
 have t1 := mg_add hu hv q_m4
 have t2 := mg_add t1 hw q_m5
 have f9 : ∀ {x : Nat}, rk .f32 x ≤ 1728053248 → rk .f32 x < inf .f32 := fun h => fin_of h (by decide)
 have a1 := add_e (f7 hu) (f7 hv) (f8 t1)
 have a2 := add_e (f8 t1) (f7 hw) (f9 t2)
 have ht2 : 1 / 8 ≤ fr .f32 (fadd .f32 (fadd .f32 u v) w) := by
  rw [ab_pos (by grind)] at a1
  obtain ⟨c1, c2⟩ := a1;rw [ab_pos (by grind)] at a2
  obtain ⟨d1, d2⟩ := a2
  grind
 have hne : rk .f32 (fadd .f32 (fadd .f32 u v) w) ≠ 0 := by have := rk_ge8 ht2; omega
 have hg : rk .f32 (part1 (fadd .f32 (fadd .f32 u v) w)) ≤ 1090519040 := mg_div (Nat.le_of_eq (show rk .f32 1065353216 = 1065353216 by decide)) (rk_ge8 ht2) (f9 t2) q_m6
 have hq := mg_mul s2 hg q_m7
 have hqf : rk .f32 (meanF x1 x2 x3 u v w) < inf .f32 := fin_of hq (by decide)
 have hh : (1 / fr .f32 (fadd .f32 (fadd .f32 u v) w)) * fr .f32 (fadd .f32 (fadd .f32 u v) w) = 1 := by
  generalize fr .f32 (fadd .f32 (fadd .f32 u v) w) = D at *
  grind
 have hdiv := div_E (k := .f32) (x := 1065353216) (by decide) (f9 t2) hne (fin_of hg (by decide)) (Q := 1 / fr .f32 (fadd .f32 (fadd .f32 u v) w)) (by rw [hh, one_fr])
 rw [ep32] at hdiv
 have e1 := mul_e (f2 k1) (f7 hu) (f8 m1); have e2 := mul_e (f2 k2) (f7 hv) (f8 m2); have e3 := mul_e (f2 k3) (f7 hw) (f8 m3)
 have e4 := add_e (f8 m1) (f8 m2) (f9 s1)
 have e5 := add_e (f9 s1) (f8 m3) (fin_of s2 (by decide))
 have e6 := mul_e (fin_of s2 (by decide)) (fin_of hg (by decide)) hqf
 have hUp : 0 < fr .f32 u + fr .f32 v + fr .f32 w := by grind
 have hZ : ((fr .f32 x1 * fr .f32 u + fr .f32 x2 * fr .f32 v + fr .f32 x3 * fr .f32 w) / (fr .f32 u + fr .f32 v + fr .f32 w)) * (fr .f32 u + fr .f32 v + fr .f32 w) = fr .f32 x1 * fr .f32 u + fr .f32 x2 * fr .f32 v + fr .f32 x3 * fr .f32 w := by
  generalize fr .f32 x1 * fr .f32 u + fr .f32 x2 * fr .f32 v + fr .f32 x3 * fr .f32 w = s;generalize fr .f32 u + fr .f32 v + fr .f32 w = t at *
  grind
 obtain ⟨z1, z2⟩ := mean_cut (Rat.le_of_lt (et_pos .f32)) et32 u0 v0 w0 (by grind) hU2 b1 b2 b3 e1 e2 e3 e4 e5 a1 a2 hh hdiv e6 hZ
 refine ⟨⟨_, hZ, z2⟩, ?_, hqf⟩
 generalize (fr .f32 x1 * fr .f32 u + fr .f32 x2 * fr .f32 v + fr .f32 x3 * fr .f32 w) / (fr .f32 u + fr .f32 v + fr .f32 w) = Z at *
 have := ab_add (fr .f32 (meanF x1 x2 x3 u v w) - Z) Z
 rw [show fr .f32 (meanF x1 x2 x3 u v w) - Z + Z = fr .f32 (meanF x1 x2 x3 u v w) by grind] at this
 change ab (fr .f32 (meanF x1 x2 x3 u v w) - Z) ≤ _ at z2
 grind
theorem V_three : Vk .f32 1077936128 = 3 * dn .f32 := by decide +kernel
theorem rk_three {t : Nat} (h : ab (fr .f32 t) ≤ 3) : rk .f32 t ≤ 1077936128 := by
 refine V_le (f := single) ?_
 have h1 := ab_fr (k := .f32) t
 have h2 := mul_le_r (Rat.le_of_lt (dn_pos .f32)) h
 rw [h1] at h2
 rw [show V single 1077936128 = 3 * dn .f32 from V_three]
 have : ((Vk .f32 (rk .f32 t) : Nat) : Rat) ≤ ((3 * dn .f32 : Nat) : Rat) := by rw [Rat.natCast_mul]; exact h2
 exact_mod_cast this
def nearV (p : V3) : Prop := (rk .f32 p.x < inf .f32 ∧ rk .f32 p.y < inf .f32 ∧ rk .f32 p.z < inf .f32) ∧ ab (rx p) ≤ 2001 / 1000 ∧ ab (ry p) ≤ 2001 / 1000 ∧ ab (rz p) ≤ 2001 / 1000
theorem near_B {p : V3} (h : nearV p) : vB 1086324736 p := by
 have part : ∀ {t : Nat}, ab (fr .f32 t) ≤ 2001 / 1000 → rk .f32 t ≤ 1086324736 := fun h => Nat.le_trans (rk_three (Rat.le_trans h (show (2001 / 1000 : Rat) ≤ 3 by grind))) (by decide)
 exact ⟨part h.2.1, part h.2.2.1, part h.2.2.2⟩
def endN (x : Nat) : Prop := rk .f32 x ≤ 1073741824 ∧ ∃ n : Int, fr .f32 x * 4 = (n : Rat) ∧ -8 ≤ n ∧ n ≤ 8
def endV (a : V3) : Prop := endN a.x ∧ endN a.y ∧ endN a.z
theorem end_2 {x : Nat} (h : endN x) : ab (fr .f32 x) ≤ 2 := by
 obtain ⟨_, n, h1, h2, h3⟩ := h
 have h2' : ((-8 : Int) : Rat) ≤ (n : Rat) := by exact_mod_cast h2
 have h3' : (n : Rat) ≤ ((8 : Int) : Rat) := by exact_mod_cast h3
 have e1 : ((-8 : Int) : Rat) = -8 := rfl
 have e2 : ((8 : Int) : Rat) = 8 := rfl
 rw [e1] at h2'
 rw [e2] at h3'
 exact ab_le (by grind) (by grind)
theorem end_q {x y : Nat} (hx : endN x) (hy : endN y) : qua (fr .f32 x) (fr .f32 y) := by
 obtain ⟨_, n, h1, _, _⟩ := hx
 obtain ⟨_, m, g1, _, _⟩ := hy
 unfold qua
 rcases Int.lt_trichotomy n m with h | h | h
 ·right
  have : ((n + 1 : Int) : Rat) ≤ (m : Rat) := by exact_mod_cast h
  rw [Rat.intCast_add] at this;have e : ((1 : Int) : Rat) = 1 := rfl;rw [e] at this;rw [ab_pos (by grind)]
  grind
 ·left
  subst h
  grind
 ·right
  have : ((m + 1 : Int) : Rat) ≤ (n : Rat) := by exact_mod_cast h
  rw [Rat.intCast_add] at this;have e : ((1 : Int) : Rat) = 1 := rfl;rw [e] at this;have := neg_ab (fr .f32 y - fr .f32 x)
  grind
theorem end_B {a : V3} (h : endV a) : vB 1086324736 a := ⟨Nat.le_trans h.1.1 (by decide), Nat.le_trans h.2.1.1 (by decide), Nat.le_trans h.2.2.1 (by decide)⟩
theorem end_le {a : V3} (h : endV a) : (vR3 a).le2 := ⟨end_2 h.1, end_2 h.2.1, end_2 h.2.2⟩
theorem end_qua {a b : V3} (h : endV a) (g : endV b) : (vR3 a).qua (vR3 b) := ⟨end_q h.1 g.1, end_q h.2.1 g.2.1, end_q h.2.2 g.2.2⟩
theorem far_8 {p a : V3} (hp : nearV p) (ha : endV a) : fr .f32 (p.away a) ≤ 8 := by
 obtain ⟨⟨l0, l1, _⟩, _⟩ := away_e (near_B hp) (end_B ha)
 have four : ∀ {s t : Rat}, ab s ≤ 2001 / 1000 → ab t ≤ 2 → ab (s - t) ≤ 401 / 100 := fun {s t} h1 h2 => by have := ab_sub s t; grind
 have x := sq_mono (four hp.2.1 (end_2 ha.1)); have y := sq_mono (four hp.2.2.1 (end_2 ha.2.1)); have z := sq_mono (four hp.2.2.2 (end_2 ha.2.2))
 refine sq_le (by grind) (Rat.le_trans l1 ?_)
 unfold R3.far
 change ((rx p - rx a) * (rx p - rx a) + (ry p - ry a) * (ry p - ry a) + (rz p - rz a) * (rz p - rz a)) * _ + _ ≤ _
 change (rx p - rx a) * (rx p - rx a) ≤ _ at x
 change (ry p - ry a) * (ry p - ry a) ≤ _ at y
 change (rz p - rz a) * (rz p - rz a) ≤ _ at z
 clear l0 l1 four hp ha
 grind
theorem meet_e {a b c p q : V3} (ha : endV a) (hb : endV b) (hc : endV c) (hp : nearV p) (h : meetStep a b c p = some q) :
  nearV q ∧ fr .f32 (q.away a) + fr .f32 (q.away b) + fr .f32 (q.away c) ≤ fr .f32 (p.away a) + fr .f32 (p.away b) + fr .f32 (p.away c) + 7 / 10000 := by
 simp only [meetStep] at h
 split at h
 case isFalse => cases h
 rename_i hf
 rw [Bool.and_eq_true, Bool.and_eq_true] at hf
 obtain ⟨⟨fa, fb⟩, fc⟩ := hf
 obtain ⟨wa, ga, ua, ra, wla⟩ := part_e (near_B hp) (end_B ha) fa (far_8 hp ha)
 obtain ⟨wb, gb, ub, rb, wlb⟩ := part_e (near_B hp) (end_B hb) fb (far_8 hp hb)
 obtain ⟨wc, gc, uc, rc, wlc⟩ := part_e (near_B hp) (end_B hc) fc (far_8 hp hc)
 have low : ∀ {D w u : Rat}, wgtP D w u → w ≤ 151115727451828646838272 → 1 / 10 ≤ u ∧ u ≤ 302231454903657293676544 := fun {D w u} g hl => by
  obtain ⟨g1, g2, g3, g4⟩ := g;have := Rat.mul_le_mul_of_nonneg_left g2 g3;have k1 := le_ab (u - w); have k2 := neg_ab (u - w)
  constructor <;> grind
 have la := low ga wla; have lb := low gb wlb; have lc := low gc wlc
 generalize hu : part1 (p.away a) = u at *
 generalize hv : part1 (p.away b) = v at *
 generalize hw : part1 (p.away c) = w at *
 have hU : 3 / 10 ≤ fr .f32 u + fr .f32 v + fr .f32 w := by grind
 have hU2 : fr .f32 u + fr .f32 v + fr .f32 w ≤ 1208925819614629174706176 := by grind
 have mx := mean_f ha.1.1 hb.1.1 hc.1.1 ra rb rc (end_2 ha.1) (end_2 hb.1) (end_2 hc.1) ua ub uc hU hU2
 have my := mean_f ha.2.1.1 hb.2.1.1 hc.2.1.1 ra rb rc (end_2 ha.2.1) (end_2 hb.2.1) (end_2 hc.2.1) ua ub uc hU hU2
 have mz := mean_f ha.2.2.1 hb.2.2.1 hc.2.2.1 ra rb rc (end_2 ha.2.2) (end_2 hb.2.2) (end_2 hc.2.2) ua ub uc hU hU2
 have e : q = ⟨meanF a.x b.x c.x u v w, meanF a.y b.y c.y u v w, meanF a.z b.z c.z u v w⟩ := (Option.some.inj h).symm
 have hq : nearV q := by rw [e];exact ⟨⟨mx.2.2, my.2.2, mz.2.2⟩, Rat.le_trans mx.2.1 (by grind), Rat.le_trans my.2.1 (by grind), Rat.le_trans mz.2.1 (by grind)⟩
 refine ⟨hq, ?_⟩
 have B := near_B hp; have C := near_B hq
 refine way_all (p := vR3 p) (q := vR3 q) (end_le ha) (end_le hb) (end_le hc) (end_qua ha hb) (end_qua ha hc) (end_qua hb ha) (end_qua hb hc) (end_qua hc ha) (end_qua hc hb)
  (away_e B (end_B ha)).1 (away_e B (end_B hb)).1 (away_e B (end_B hc)).1 (away_e C (end_B ha)).1 (away_e C (end_B hb)).1 (away_e C (end_B hc)).1 ga gb gc ua ub uc ?_ ?_ ?_
 ·rw [e]; exact mx.1
 ·rw [e]; exact my.1
 ·rw [e]; exact mz.1
end Vs
