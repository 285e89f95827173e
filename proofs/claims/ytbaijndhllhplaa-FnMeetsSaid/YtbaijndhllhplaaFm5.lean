/-
  The point of meeting: no round makes the ways longer, but by a little.
-/
import Derived.Test.YtbaijndhllhplaaFm4
set_option maxHeartbeats 4000000
namespace Vs
open Go Ieee
theorem meet_run {a b c : V3} (ha : endV a) (hb : endV b) (hc : endV c) : ∀ (n : Nat) (p : V3), nearV p → nearV (meetN a b c n p) ∧ (meetN a b c (n + 1) p = meetN a b c n p ∨ meetStep a b c (meetN a b c n p) = some (meetN a b c (n + 1) p))
 | 0, p, hp => by
  refine ⟨hp, ?_⟩
  cases h : meetStep a b c p with
  | none => exact .inl (meetN_none h)
  | some q =>
   right
   rw [meetN_some h];exact h
 | n + 1, p, hp => by
  cases h : meetStep a b c p with
  | none =>
   rw [meetN_none h, meetN_none h];exact ⟨hp, .inl rfl⟩
  | some q =>
   rw [meetN_some h, meetN_some h];exact meet_run ha hb hc n q (meet_e ha hb hc hp h).1
def pathV (p a b c : V3) : Nat := fadd .f32 (fadd .f32 (p.away a) (p.away b)) (p.away c)
theorem q_p1 : (1090519040 : Nat) < inf .f32 ∧ 1090519040 < inf .f32 ∧ 1098907648 ≤ inf .f32 ∧ Vk .f32 1090519040 + Vk .f32 1090519040 ≤ Vk .f32 1098907648 := by decide +kernel
theorem q_p2 : (1098907648 : Nat) < inf .f32 ∧ 1090519040 < inf .f32 ∧ 1107296256 ≤ inf .f32 ∧ Vk .f32 1098907648 + Vk .f32 1090519040 ≤ Vk .f32 1107296256 := by decide +kernel
theorem V_eight : Vk .f32 1090519040 = 8 * dn .f32 := by decide +kernel
theorem rk_eight {t : Nat} (h : ab (fr .f32 t) ≤ 8) : rk .f32 t ≤ 1090519040 := by
 refine V_le (f := single) ?_
 have h1 := ab_fr (k := .f32) t
 have h2 := mul_le_r (Rat.le_of_lt (dn_pos .f32)) h
 rw [h1] at h2
 rw [show V single 1090519040 = 8 * dn .f32 from V_eight]
 have : ((Vk .f32 (rk .f32 t) : Nat) : Rat) ≤ ((8 * dn .f32 : Nat) : Rat) := by rw [Rat.natCast_mul]; exact h2
 exact_mod_cast this
theorem path_e {p a b c : V3} (hp : nearV p) (ha : endV a) (hb : endV b) (hc : endV c) : rk .f32 (pathV p a b c) < inf .f32 ∧ 0 ≤ fr .f32 (pathV p a b c) ∧ fr .f32 (pathV p a b c) ≤ 25 ∧ ab (fr .f32 (pathV p a b c) - (fr .f32 (p.away a) + fr .f32 (p.away b) + fr .f32 (p.away c))) ≤ 1 / 100000 := by
 have la := (away_e (near_B hp) (end_B ha)).1.1; have lb := (away_e (near_B hp) (end_B hb)).1.1; have lc := (away_e (near_B hp) (end_B hc)).1.1
 have ua := far_8 hp ha; have ub := far_8 hp hb; have uc := far_8 hp hc
 have ra := rk_eight (show ab (fr .f32 (p.away a)) ≤ 8 by rw [ab_pos la]; exact ua)
 have rb := rk_eight (show ab (fr .f32 (p.away b)) ≤ 8 by rw [ab_pos lb]; exact ub)
 have rc := rk_eight (show ab (fr .f32 (p.away c)) ≤ 8 by rw [ab_pos lc]; exact uc)
 have f8 : ∀ {x : Nat}, rk .f32 x ≤ 1090519040 → rk .f32 x < inf .f32 := fun h => fin_of h (by decide)
 have s1 := mg_add ra rb q_p1
 have s2 := mg_add s1 rc q_p2
 have a1 := add_e (f8 ra) (f8 rb) (fin_of s1 (by decide))
 have a2 := add_e (fin_of s1 (by decide)) (f8 rc) (fin_of s2 (by decide))
 refine ⟨fin_of s2 (by decide), ?_⟩
 unfold pathV
 generalize fr .f32 (fadd .f32 (fadd .f32 (p.away a) (p.away b)) (p.away c)) = S at *
 generalize fr .f32 (fadd .f32 (p.away a) (p.away b)) = T at *
 generalize fr .f32 (p.away a) = A at *
 generalize fr .f32 (p.away b) = B at *
 generalize fr .f32 (p.away c) = C at *
 rw [ab_pos (by grind)] at a1
 obtain ⟨c1, c2⟩ := a1
 rw [ab_pos (by grind)] at a2
 obtain ⟨d1, d2⟩ := a2
 exact ⟨by grind, by grind, ab_le (by grind) (by grind)⟩
theorem ep64 : ep .f64 = 1 / 4503599627370496 := by
 have : (FloatKind.f64.format.binade : Rat) = 4503599627370496 := by
  rw [show FloatKind.f64.format.binade = 4503599627370496 by decide]
  rfl
 unfold ep
 rw [this]
theorem milli : 99 / 100000 ≤ fr .f64 4562254508917369340 ∧ fr .f64 4562254508917369340 ≤ 101 / 100000 ∧ rk .f64 4562254508917369340 < inf .f64 := by
 have h1 : 99 * dn .f64 ≤ Vk .f64 (rk .f64 4562254508917369340) * 100000 := by decide +kernel
 have h2 : Vk .f64 (rk .f64 4562254508917369340) * 100000 ≤ 101 * dn .f64 := by decide +kernel
 have hd := dn_pos .f64
 have e : fr .f64 4562254508917369340 * (dn .f64 : Rat) = ((Vk .f64 (rk .f64 4562254508917369340) : Nat) : Rat) := by
  rcases fr_cases (k := .f64) 4562254508917369340 with ⟨_, e⟩ | ⟨e, _⟩
  ·exact e
  ·exact absurd e (by decide)
 have g1 : ((99 * dn .f64 : Nat) : Rat) ≤ ((Vk .f64 (rk .f64 4562254508917369340) * 100000 : Nat) : Rat) := by exact_mod_cast h1
 have g2 : ((Vk .f64 (rk .f64 4562254508917369340) * 100000 : Nat) : Rat) ≤ ((101 * dn .f64 : Nat) : Rat) := by exact_mod_cast h2
 rw [Rat.natCast_mul, Rat.natCast_mul, ← e] at g1 g2
 have c1 : ((99 : Nat) : Rat) = 99 := rfl
 have c2 : ((101 : Nat) : Rat) = 101 := rfl
 have c3 : ((100000 : Nat) : Rat) = 100000 := rfl
 rw [c1, c3] at g1
 rw [c2, c3] at g2
 generalize (dn .f64 : Rat) = D at *
 generalize fr .f64 4562254508917369340 = m at *
 refine ⟨le_of_mul hd (by grind), le_of_mul hd (by grind), by decide⟩
theorem not_more {x y : Nat} (hx : rk .f32 x < inf .f32) (hy : rk .f32 y < inf .f32) (y0 : 0 ≤ fr .f32 y) (y1 : fr .f32 y ≤ 25) (h : fr .f32 x ≤ fr .f32 y + 98 / 100000) : fgt .f64 (wide x) (fadd .f64 (wide y) 4562254508917369340) = false := by
 obtain ⟨m1, m2, m3⟩ := milli
 have wx := wide_sv hx; have wy := wide_sv hy
 have ex := fr_wide hx; have ey := fr_wide hy
 have hrk : rk .f64 (fadd .f64 (wide y) 4562254508917369340) ≤ 4629700416936869888 + 4503599627370496 := by
  have hy32 : rk .f64 (wide y) ≤ 4629700416936869888 := by
   refine V_le (f := double) ?_;have h1 := ab_fr (k := .f64) (wide y);rw [ey, ab_pos y0] at h1;have h2 := mul_le_r (Rat.le_of_lt (dn_pos .f64)) (show fr .f32 y ≤ 32 by grind)
   rw [h1] at h2;rw [show V double 4629700416936869888 = 32 * dn .f64 by decide +kernel]
   have : ((Vk .f64 (rk .f64 (wide y)) : Nat) : Rat) ≤ ((32 * dn .f64 : Nat) : Rat) := by rw [Rat.natCast_mul]; exact h2
   exact_mod_cast this
  exact mg_add hy32 (show rk .f64 4562254508917369340 ≤ 4629700416936869888 by decide) (by decide +kernel)
 have hf : rk .f64 (fadd .f64 (wide y) 4562254508917369340) < inf .f64 := Nat.lt_of_le_of_lt hrk (by decide)
 have ea := add_E (k := .f64) wy.1 m3 hf
 rw [ey, ep64] at ea
 rw [ab_pos (by grind)] at ea
 obtain ⟨c1, c2⟩ := ea
 have hle : fr .f64 (wide x) ≤ fr .f64 (fadd .f64 (wide y) 4562254508917369340) := by rw [ex]; grind
 rw [fgt_R wx.1 hf]
 refine decide_eq_false fun hlt => ?_
 have h1 := fr_mul .f64 (wide x)
 have h2 := fr_mul .f64 (fadd .f64 (wide y) 4562254508917369340)
 have h3 := mul_le_r (Rat.le_of_lt (dn_pos .f64)) hle
 rw [h1, h2] at h3
 have h4 : sv .f64 (wide x) ≤ sv .f64 (fadd .f64 (wide y) 4562254508917369340) := by exact_mod_cast h3
 omega
theorem meets_ok {a b c p : V3} (ha : endV a) (hb : endV b) (hc : endV c) (hp : nearV p) (n : Nat) : fgt .f64 (wide (pathV (meetN a b c (n + 1) p) a b c)) (fadd .f64 (wide (pathV (meetN a b c n p) a b c)) 4562254508917369340) = false := by
 obtain ⟨hn, h⟩ := meet_run ha hb hc n p hp
 obtain ⟨p1, p2, p3, p4⟩ := path_e hn ha hb hc
 rcases h with h | h
 ·rw [h]
  exact not_more p1 p1 p2 p3 (by grind)
 ·obtain ⟨h1, h2⟩ := meet_e ha hb hc hn h
  obtain ⟨q1, _, _, q4⟩ := path_e h1 ha hb hc;refine not_more q1 p1 p2 p3 ?_;have := le_ab (fr .f32 (pathV (meetN a b c (n + 1) p) a b c) - (fr .f32 ((meetN a b c (n + 1) p).away a) + fr .f32 ((meetN a b c (n + 1) p).away b) + fr .f32 ((meetN a b c (n + 1) p).away c)));have := neg_ab (fr .f32 (pathV (meetN a b c n p) a b c) - (fr .f32 ((meetN a b c n p).away a) + fr .f32 ((meetN a b c n p).away b) + fr .f32 ((meetN a b c n p).away c)))
  grind
theorem q_s1 : (1073741824 : Nat) < inf .f32 ∧ 1073741824 < inf .f32 ∧ 1082130432 ≤ inf .f32 ∧ Vk .f32 1073741824 + Vk .f32 1073741824 ≤ Vk .f32 1082130432 := by decide +kernel
theorem q_s2 : (1082130432 : Nat) < inf .f32 ∧ 1073741824 < inf .f32 ∧ 1086324736 ≤ inf .f32 ∧ Vk .f32 1082130432 + Vk .f32 1073741824 ≤ Vk .f32 1086324736 := by decide +kernel
theorem q_s3 : (1086324736 : Nat) < inf .f32 ∧ 1051372203 < inf .f32 ∧ 1073742000 ≤ inf .f32 ∧ Vk .f32 1086324736 * Vk .f32 1051372203 ≤ Vk .f32 1073742000 * dn .f32 := by decide +kernel
theorem V_two : Vk .f32 1073742000 * 1000 ≤ 2001 * dn .f32 := by decide +kernel
theorem start_near {a b c : V3} (ha : endV a) (hb : endV b) (hc : endV c) : nearV (((a.add b).add c).scale 1051372203) := by
 have part : ∀ {x y z : Nat}, endN x → endN y → endN z → rk .f32 (fmul .f32 (fadd .f32 (fadd .f32 x y) z) 1051372203) < inf .f32 ∧ ab (fr .f32 (fmul .f32 (fadd .f32 (fadd .f32 x y) z) 1051372203)) ≤ 2001 / 1000 := fun {x y z} hx hy hz => by
  have h := mg_mul (mg_add (mg_add hx.1 hy.1 q_s1) hz.1 q_s2) (Nat.le_of_eq (show rk .f32 1051372203 = 1051372203 by decide)) q_s3
  refine ⟨fin_of h (by decide), ?_⟩
  generalize fmul .f32 (fadd .f32 (fadd .f32 x y) z) 1051372203 = t at *;have h1 := ab_fr (k := .f32) t;have h2 : Vk .f32 (rk .f32 t) * 1000 ≤ 2001 * dn .f32 := Nat.le_trans (Nat.mul_le_mul_right _ (V_mono single h)) V_two;have h3 : ((Vk .f32 (rk .f32 t) * 1000 : Nat) : Rat) ≤ ((2001 * dn .f32 : Nat) : Rat) := by exact_mod_cast h2
  rw [Rat.natCast_mul, Rat.natCast_mul, ← h1] at h3;have c1 : ((1000 : Nat) : Rat) = 1000 := rfl;have c2 : ((2001 : Nat) : Rat) = 2001 := rfl;rw [c1, c2] at h3;refine le_of_mul (dn_pos .f32) ?_;generalize (dn .f32 : Rat) = D at *
  grind
 have x := part ha.1 hb.1 hc.1; have y := part ha.2.1 hb.2.1 hc.2.1; have z := part ha.2.2 hb.2.2 hc.2.2
 exact ⟨⟨x.1, y.1, z.1⟩, x.2, y.2, z.2⟩
end Vs
