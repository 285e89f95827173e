/-
  One round of the point of meeting, in floats.
-/
import Derived.Test.YtbaijndhllhplaaFm2
set_option maxHeartbeats 4000000
namespace Vs
open Go Ieee
def vR3 (p : V3) : R3 := ⟨rx p, ry p, rz p⟩
theorem away_long (p a : V3) : p.away a = longV (lessV p a) := rfl
theorem away_e {p a : V3} (hp : vB 1086324736 p) (ha : vB 1086324736 a) : lenE (fr .f32 (p.away a)) ((vR3 p).far (vR3 a)) ∧ rk .f32 (p.away a) ≤ 1635778560 ∧ sgn single (p.away a) = false := by
 rw [away_long]
 obtain ⟨h0, h1, h2, h3, h4⟩ := long_e (up16 (less_B hp ha))
 have ex := sub_e hp.1 ha.1; have ey := sub_e hp.2.1 ha.2.1; have ez := sub_e hp.2.2 ha.2.2
 refine ⟨?_, h3, h4⟩
 unfold lenE R3.far
 show 0 ≤ _ ∧ _ ≤ ((rx p - rx a) * (rx p - rx a) + (ry p - ry a) * (ry p - ry a) + (rz p - rz a) * (rz p - rz a)) * (250001 / 250000) + _ ∧ (rx p - rx a) * (rx p - rx a) + (ry p - ry a) * (ry p - ry a) + (rz p - rz a) * (rz p - rz a) ≤ _
 have part : ∀ {s d : Rat}, near (1 / 8388608 * ab d) s d → s * s ≤ d * d * (1000001 / 1000000) ∧ d * d ≤ s * s * (1000001 / 1000000) := fun {s d} h => by
  rw [ab_near] at h;have a1 := ab_add (s - d) d;rw [show s - d + d = s by grind] at a1
  have a2 := ab_sub s (s - d);rw [show s - (s - d) = d by grind] at a2
  have e1 := ab_sq s; have e2 := ab_sq d;have n1 := ab_nonneg s; have n2 := ab_nonneg d;generalize ab s = S at *;generalize ab d = D at *;generalize ab (s - d) = t at *;have b1 : S ≤ D * (1 + 1 / 8388608) := by grind
  have b2 : D ≤ S * (1 + 2 / 8388608) := by grind
  have c1 := mul_le_r n1 b1; have c2 := Rat.mul_le_mul_of_nonneg_left b1 n2;have c3 := mul_le_r n2 b2; have c4 := Rat.mul_le_mul_of_nonneg_left b2 n1;have s1 := mul_nn n1 n1; have s2 := mul_nn n2 n2
  constructor <;> grind
 obtain ⟨x1, x2⟩ := part ex; obtain ⟨y1, y2⟩ := part ey; obtain ⟨z1, z2⟩ := part ez
 change fr .f32 (fsub .f32 p.x a.x) * fr .f32 (fsub .f32 p.x a.x) ≤ (rx p - rx a) * (rx p - rx a) * (1000001 / 1000000) at x1
 change fr .f32 (fsub .f32 p.y a.y) * fr .f32 (fsub .f32 p.y a.y) ≤ (ry p - ry a) * (ry p - ry a) * (1000001 / 1000000) at y1
 change fr .f32 (fsub .f32 p.z a.z) * fr .f32 (fsub .f32 p.z a.z) ≤ (rz p - rz a) * (rz p - rz a) * (1000001 / 1000000) at z1
 change (rx p - rx a) * (rx p - rx a) ≤ fr .f32 (fsub .f32 p.x a.x) * fr .f32 (fsub .f32 p.x a.x) * (1000001 / 1000000) at x2
 change (ry p - ry a) * (ry p - ry a) ≤ fr .f32 (fsub .f32 p.y a.y) * fr .f32 (fsub .f32 p.y a.y) * (1000001 / 1000000) at y2
 change (rz p - rz a) * (rz p - rz a) ≤ fr .f32 (fsub .f32 p.z a.z) * fr .f32 (fsub .f32 p.z a.z) * (1000001 / 1000000) at z2
 change _ ≤ (fr .f32 (fsub .f32 p.x a.x) * fr .f32 (fsub .f32 p.x a.x) + fr .f32 (fsub .f32 p.y a.y) * fr .f32 (fsub .f32 p.y a.y) + fr .f32 (fsub .f32 p.z a.z) * fr .f32 (fsub .f32 p.z a.z)) * _ + _ at h1
 change fr .f32 (fsub .f32 p.x a.x) * fr .f32 (fsub .f32 p.x a.x) + fr .f32 (fsub .f32 p.y a.y) * fr .f32 (fsub .f32 p.y a.y) + fr .f32 (fsub .f32 p.z a.z) * fr .f32 (fsub .f32 p.z a.z) ≤ _ at h2
 have s1 := sq_nn (rx p - rx a); have s2 := sq_nn (ry p - ry a); have s3 := sq_nn (rz p - rz a); have s4 := sq_nn (fr .f32 (longV (lessV p a)))
 generalize fr .f32 (longV (lessV p a)) * fr .f32 (longV (lessV p a)) = LL at *
 generalize fr .f32 (fsub .f32 p.x a.x) * fr .f32 (fsub .f32 p.x a.x) = X at *
 generalize fr .f32 (fsub .f32 p.y a.y) * fr .f32 (fsub .f32 p.y a.y) = Y at *
 generalize fr .f32 (fsub .f32 p.z a.z) * fr .f32 (fsub .f32 p.z a.z) = Z at *
 generalize (rx p - rx a) * (rx p - rx a) = U at *
 generalize (ry p - ry a) * (ry p - ry a) = V at *
 generalize (rz p - rz a) * (rz p - rz a) = W at *
 clear ex ey ez part h3 h4
 refine ⟨h0, by grind, by grind⟩
theorem V_low50 : Vk .f32 419430400 = 2 ^ 72 := by decide +kernel
theorem away_z {p a : V3} (hp : vB 1086324736 p) (ha : vB 1086324736 a) : p.away a = 0 ∨ 419430400 ≤ rk .f32 (p.away a) := by
 have hB := up16 (less_B hp ha)
 have xB := dot_B hB
 have xs := dot_sgn hB
 have hf := fin_of xB (by decide)
 rw [away_long, long_eq]
 rcases Nat.eq_zero_or_pos (rk .f32 (dotV (lessV p a) (lessV p a))) with h0 | h0
 ·exact .inl (rootP_zero h0 xs)
 ·obtain ⟨_, s1, _, _, low⟩ := root_E hf xs h0
  right
  refine V_le (f := single) ?_;rw [show V single 419430400 = 2 ^ 72 from V_low50]
  have hv : fr .f32 (rootP (dotV (lessV p a) (lessV p a))) * (dn .f32 : Rat) = ((Vk .f32 (rk .f32 (rootP (dotV (lessV p a) (lessV p a)))) : Nat) : Rat) := by
   rcases fr_cases (k := .f32) (rootP (dotV (lessV p a) (lessV p a))) with ⟨_, e⟩ | ⟨e, _⟩
   ·exact e
   ·rw [show sgn FloatKind.f32.format (rootP (dotV (lessV p a) (lessV p a))) = false from s1] at e; cases e
  have h1 := mul_le_r (Rat.le_of_lt (dn_pos .f32)) low;rw [hv, dn_tp, ← tp_add, show (-77 : Int) + -FloatKind.f32.format.leastPlace = ((72 : Nat) : Int) by decide, tp_nat] at h1
  exact_mod_cast h1
theorem one_fr : fr .f32 1065353216 = 1 := by
 have h1 : Vk .f32 (rk .f32 1065353216) = dn .f32 := by decide +kernel
 have hd := dn_pos .f32
 rcases fr_cases (k := .f32) 1065353216 with ⟨_, e⟩ | ⟨e, _⟩
 ·rw [h1] at e
  exact mul_cancel hd (by rw [e]; grind)
 ·exact absurd e (by decide)
theorem part_0 : finP (part1 0) = false := by decide +kernel
theorem q_part : (1065353216 : Nat) < inf .f32 ∧ 0 < 419430400 ∧ 1711276032 ≤ inf .f32 ∧ Vk .f32 1065353216 * dn .f32 ≤ Vk .f32 1711276032 * Vk .f32 419430400 := by decide +kernel
theorem part_e {p a : V3} (hp : vB 1086324736 p) (ha : vB 1086324736 a) (hf : finP (part1 (p.away a)) = true) (h8 : fr .f32 (p.away a) ≤ 8) :
  ∃ w, wgtP (fr .f32 (p.away a)) w (fr .f32 (part1 (p.away a))) ∧ 0 ≤ fr .f32 (part1 (p.away a)) ∧ rk .f32 (part1 (p.away a)) ≤ 1711276032 ∧ w ≤ 151115727451828646838272 := by
 obtain ⟨⟨l0, _, _⟩, l1, l2⟩ := away_e hp ha
 rcases away_z hp ha with h0 | h0
 ·rw [h0, part_0] at hf; cases hf
 have hfin := fin_of l1 (by decide)
 have hr : rk .f32 (part1 (p.away a)) ≤ 1711276032 := mg_div (Nat.le_of_eq (show rk .f32 1065353216 = 1065353216 by decide)) h0 hfin q_part
 have hlow : tp (-77) ≤ fr .f32 (p.away a) := by
  have hv : fr .f32 (p.away a) * (dn .f32 : Rat) = ((Vk .f32 (rk .f32 (p.away a)) : Nat) : Rat) := by
   rcases fr_cases (k := .f32) (p.away a) with ⟨_, e⟩ | ⟨e, _⟩
   ·exact e
   ·rw [show sgn FloatKind.f32.format (p.away a) = false from l2] at e; cases e
  refine le_of_mul (dn_pos .f32) ?_;rw [hv, dn_tp, ← tp_add, show (-77 : Int) + -FloatKind.f32.format.leastPlace = ((72 : Nat) : Int) by decide, tp_nat]
  have : 2 ^ 72 ≤ Vk .f32 (rk .f32 (p.away a)) := by rw [← V_low50]; exact V_mono single h0
  exact_mod_cast this
 have htp : tp (-77) * tp 77 = 1 := by rw [← tp_add]; exact tp_zero
 have ht77 : tp 77 = 151115727451828646838272 := by
  rw [show (77 : Int) = ((77 : Nat) : Int) from rfl, tp_nat]
  decide +kernel
 rw [ht77] at htp
 have hpos : 0 < fr .f32 (p.away a) := by have := tp_pos (-77); grind
 have hne : rk .f32 (p.away a) ≠ 0 := by omega
 have hw : (1 / fr .f32 (p.away a)) * fr .f32 (p.away a) = 1 := by
  generalize fr .f32 (p.away a) = D at *
  grind
 have hdiv := div_E (k := .f32) (x := 1065353216) (y := p.away a) (by decide) hfin hne (fin_of hr (by decide)) (Q := 1 / fr .f32 (p.away a)) (by rw [hw, one_fr])
 rw [ep32] at hdiv
 change near _ (fr .f32 (part1 (p.away a))) _ at hdiv
 have het := et32
 generalize fr .f32 (p.away a) = D at *
 generalize hW : 1 / D = w at *
 have hw0 : 0 ≤ w := by
  rcases Rat.le_total (a := 0) (b := w) with h | h
  ·exact h
  ·exfalso
   have := mul_le_r (Rat.le_of_lt hpos) h
   grind
 have hw1 : 1 / 10 ≤ w := by
  have := Rat.mul_le_mul_of_nonneg_left h8 hw0
  grind
 obtain ⟨g1, g2⟩ := wgt_near het hw1 hdiv
 refine ⟨w, ⟨hw, h8, hw0, g1⟩, g2, hr, ?_⟩
 have k1 := Rat.mul_le_mul_of_nonneg_left hlow hw0
 have k2 := mul_le_r (show (0 : Rat) ≤ 151115727451828646838272 by decide) k1
 rw [hw, Rat.mul_assoc, htp, Rat.mul_one, Rat.one_mul] at k2
 exact k2
end Vs
