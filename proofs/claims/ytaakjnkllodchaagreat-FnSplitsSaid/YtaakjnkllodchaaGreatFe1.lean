/-
  Values of floats as rationals, and how far the operations' results are from the exact ones.
-/
import Derived.Test.YtaakjnkllodchaaGreatMf5
import Derived.Test.YtaakjnkllodchaaGreatMf4
import Derived.Test.YtaakjnkllodchaaGreatK9
set_option maxHeartbeats 4000000
namespace Vs
open Go Ieee
theorem V_gap (f : Format) (r : Nat) : (V f (r + 1) - V f r) * f.binade ≤ V f r ∨ V f (r + 1) = V f r + 1 := by
 have hbp := binade_pos f
 rcases Nat.lt_or_ge (r + 1) (2 * f.binade) with h1 | h1
 ·right
  rw [V_low h1, V_low (by omega)]
 ·unfold V
  rw [if_neg (show ¬ r + 1 < f.binade by omega)]
  by_cases h2 : r < f.binade
  ·have e : r + 1 = f.binade := by omega
   omega
  ·rw [if_neg h2]
   have hdm := Nat.div_add_mod r f.binade;have hm := Nat.mod_lt r hbp;have hq : 1 ≤ r / f.binade := (Nat.le_div_iff_mul_le hbp).2 (by omega)
   generalize hqe : r / f.binade = q at *;generalize hme : r % f.binade = m at *
   left
   by_cases h3 : m + 1 < f.binade
   ·have e1 : (r + 1) / f.binade = q := by rw [← hdm, Nat.add_assoc, Nat.mul_add_div hbp, Nat.div_eq_of_lt h3, Nat.add_zero]
    have e2 : (r + 1) % f.binade = m + 1 := by rw [← hdm, Nat.add_assoc, Nat.mul_add_mod, Nat.mod_eq_of_lt h3]
    rw [e1, e2];have : (f.binade + (m + 1)) * 2 ^ (q - 1) - (f.binade + m) * 2 ^ (q - 1) = 2 ^ (q - 1) := by rw [show f.binade + (m + 1) = (f.binade + m) + 1 by omega, Nat.add_mul _ 1, Nat.one_mul, Nat.add_sub_cancel_left]
    rw [this, Nat.mul_comm, Nat.add_mul];exact Nat.le_add_right _ _
   ·have e0 : m + 1 = f.binade := by omega
    have e1 : (r + 1) / f.binade = q + 1 := by rw [← hdm, Nat.add_assoc, e0, Nat.mul_add_div hbp, Nat.div_self hbp]
    have e2 : (r + 1) % f.binade = 0 := by rw [← hdm, Nat.add_assoc, e0, Nat.mul_add_mod, Nat.mod_self]
    rw [e1, e2];have e3 : q + 1 - 1 = (q - 1) + 1 := by omega
    have : (f.binade + 0) * 2 ^ (q + 1 - 1) - (f.binade + m) * 2 ^ (q - 1) = 2 ^ (q - 1) := by rw [e3, Nat.pow_succ, Nat.add_zero, ← Nat.mul_assoc, Nat.mul_right_comm, ← Nat.sub_mul, show f.binade * 2 - (f.binade + m) = 1 by omega, Nat.one_mul]
    rw [this, Nat.mul_comm, Nat.add_mul];exact Nat.le_add_right _ _
theorem Rd_err {f : Format} {N D r : Nat} (hD : 0 < D) (h : Rd f N D r) (hr : r < f.infRung) :
  ((V f r * D - N) * f.binade ≤ N ∨ V f r * D - N < D) ∧ ((N - V f r * D) * f.binade ≤ N ∨ N - V f r * D < D) := by
 obtain ⟨_, h2, h3⟩ := h
 have up : N < V f (r + 1) * D := by
  rcases Nat.lt_or_ge N (V f (r + 1) * D) with h | h
  ·exact h
  ·have := h3 (r + 1) (by omega) h; omega
 constructor
 ·match r, h2, hr with
  | 0, _, _ =>
   left
   rw [V_zero, Nat.zero_mul, Nat.zero_sub, Nat.zero_mul];exact Nat.zero_le _
  | s + 1, h2, hr =>
   have lo : V f s * D < N := by
    rcases Nat.lt_or_ge (V f s * D) N with h | h
    ·exact h
    ·have := h2 s (by omega) h; omega
   rcases V_gap f s with hg | hg
   ·left
    have e1 : V f (s + 1) * D - N ≤ (V f (s + 1) - V f s) * D := by rw [Nat.sub_mul]; omega
    calc (V f (s + 1) * D - N) * f.binade ≤ (V f (s + 1) - V f s) * D * f.binade := Nat.mul_le_mul_right _ e1
     _ = (V f (s + 1) - V f s) * f.binade * D := Nat.mul_right_comm _ _ _
     _ ≤ V f s * D := Nat.mul_le_mul_right _ hg
     _ ≤ N := Nat.le_of_lt lo
   ·right
    rw [hg, Nat.add_mul, Nat.one_mul];omega
 ·rcases V_gap f r with hg | hg
  ·left
   rcases Nat.lt_or_ge N (V f r * D) with h | h
   ·rw [Nat.sub_eq_zero_of_le (Nat.le_of_lt h), Nat.zero_mul]; exact Nat.zero_le _
   ·have e1 : N - V f r * D ≤ (V f (r + 1) - V f r) * D := by rw [Nat.sub_mul]; omega
    calc (N - V f r * D) * f.binade ≤ (V f (r + 1) - V f r) * D * f.binade := Nat.mul_le_mul_right _ e1
     _ = (V f (r + 1) - V f r) * f.binade * D := Nat.mul_right_comm _ _ _
     _ ≤ V f r * D := Nat.mul_le_mul_right _ hg
     _ ≤ N := h
  ·right
   rw [hg, Nat.add_mul, Nat.one_mul] at up;omega
theorem sum_S {f : Format} (hf : FOk f) {x y : Nat} (s t : Bool) {m n : Nat} {i j : Int} (h2 : f.leastPlace ≤ i) (h3 : m * 2 ^ (i - f.leastPlace).toNat = V f x)
  (h5 : f.leastPlace ≤ j) (h6 : n * 2 ^ (j - f.leastPlace).toNat = V f y) {S : Int} (hS : S = (if s = true then -(V f x : Int) else V f x) + (if t = true then -(V f y : Int) else V f y)) :
  ∃ r u, ((Datum.number s m i).sum (.number t n j)).map f.write = some (f.word u r) ∧ Rd f S.natAbs 1 r ∧ (0 < S → u = false) ∧ (S < 0 → u = true) := by
 have hU := hf.hU
 simp only [Datum.sum, Option.map_some, Format.write]
 obtain ⟨r, hr, hB⟩ := nearest_R (f := f) (if signed s m (i - min i j).toNat + signed t n (j - min i j).toNat = 0 then s && t else decide (signed s m (i - min i j).toNat + signed t n (j - min i j).toNat < 0)) (signed s m (i - min i j).toNat + signed t n (j - min i j).toNat).natAbs (min i j)
 have e1 : (signed s m (i - min i j).toNat + signed t n (j - min i j).toNat) * ((2 ^ (min i j - f.leastPlace).toNat : Nat) : Int) = S := by
  have p1 := pow_split (show f.leastPlace ≤ min i j by omega) (show min i j ≤ i by omega)
  have p2 := pow_split (show f.leastPlace ≤ min i j by omega) (show min i j ≤ j by omega)
  rw [hS, ← h3, ← h6, p1, p2];generalize 2 ^ (min i j - f.leastPlace).toNat = w;simp only [signed_abs];have q1 : m * 2 ^ (i - min i j).toNat * w = m * (2 ^ (i - min i j).toNat * w) := Nat.mul_assoc _ _ _;have q2 : n * 2 ^ (j - min i j).toNat * w = n * (2 ^ (j - min i j).toNat * w) := Nat.mul_assoc _ _ _;rw [← q1, ← q2];generalize m * 2 ^ (i - min i j).toNat = a;generalize n * 2 ^ (j - min i j).toNat = b
  cases s <;> cases t <;> simp [Int.add_mul, Int.neg_mul]
 have hw : (0 : Int) < ((2 ^ (min i j - f.leastPlace).toNat : Nat) : Int) := Int.natCast_pos.2 (Nat.two_pow_pos _)
 have hr2 := hB f.leastPlace (by omega) (Int.le_refl _)
 generalize hw2 : 2 ^ (min i j - f.leastPlace).toNat = w at *
 generalize signed s m (i - min i j).toNat + signed t n (j - min i j).toNat = Q at *
 have e2 : Q.natAbs * w = S.natAbs := by rw [← e1, Int.natAbs_mul, Int.natAbs_natCast]
 rw [e2] at hr2
 have e3 : (f.leastPlace - f.leastPlace).toNat = 0 := by omega
 refine ⟨r, _, by rw [hr], ⟨by rw [hr2]; exact rungN_le_inf _ _ _, fun q hq h => ?_, fun q hq h => ?_⟩, fun h => ?_, fun h => ?_⟩
 ·rw [hr2]; exact rung_le hf (Int.le_refl _) hq (by rw [e3]; simpa using h)
 ·rw [hr2]; exact le_rung hf (Int.le_refl _) hq (by rw [e3]; simpa using h)
 ·have hQ : 0 < Q := by
   by_cases h1 : 0 < Q
   ·exact h1
   ·have := Int.mul_nonpos_of_nonpos_of_nonneg (Int.not_lt.1 h1) (Int.le_of_lt hw); omega
  rw [if_neg (by omega)]
  exact decide_eq_false (by omega)
 ·have hQ : Q < 0 := by
   by_cases h1 : Q < 0
   ·exact h1
   ·have := Int.mul_nonneg (Int.not_lt.1 h1) (Int.le_of_lt hw); omega
  rw [if_neg (by omega)]
  exact decide_eq_true (by omega)
variable {k : FloatKind} {x y : Nat}
theorem svw {u : Bool} {r : Nat} (h : r ≤ inf k) : sv k (k.format.word u r) = if u = true then -(Vk k r : Int) else Vk k r := by
 unfold sv
 rw [sgn_word h, rk_word h]
theorem svw_S {u : Bool} {r : Nat} {S : Int} (hr : Rd k.format S.natAbs 1 r) (h1 : 0 < S → u = false) (h2 : S < 0 → u = true) : sv k (k.format.word u r) = if S < 0 then -(Vk k r : Int) else Vk k r := by
 rw [svw hr.1]
 by_cases h : S < 0
 ·rw [h2 h, if_pos rfl, if_pos h]
 ·rw [if_neg h]
  by_cases h3 : 0 < S
  ·rw [h1 h3, if_neg (by simp)]
  ·have h0 : S = 0 := by omega
   have : r = 0 := Nat.le_antisymm (hr.2.1 0 (Nat.zero_le _) (by rw [h0]; simp)) (Nat.zero_le _)
   rw [this];simp [Vk, V_zero]
theorem add_S (hx : rk k x < inf k) (hy : rk k y < inf k) : ∃ r, sv k (fadd k x y) = (if sv k x + sv k y < 0 then -(Vk k r : Int) else Vk k r) ∧ rk k (fadd k x y) = r ∧ Rd k.format (sv k x + sv k y).natAbs 1 r := by
 obtain ⟨m, i, h1, h2, h3, _⟩ := read_fin hx
 obtain ⟨n, j, h4, h5, h6, _⟩ := read_fin hy
 obtain ⟨r, u, h, hr, hu1, hu2⟩ := sum_S (okF k) (x := rk k x) (y := rk k y) (sgn k.format x) (sgn k.format y) h2 h3 h5 h6 (S := sv k x + sv k y) rfl
 refine ⟨r, ?_, ?_, hr⟩
 ·rw [fadd, Format.add, h1, h4, h, fin, canon_word hr.1, svw_S hr hu1 hu2]
 ·rw [fadd, Format.add, h1, h4, h, fin, canon_word hr.1, rk_word hr.1]
theorem sub_S (hx : rk k x < inf k) (hy : rk k y < inf k) : ∃ r, sv k (fsub k x y) = (if sv k x - sv k y < 0 then -(Vk k r : Int) else Vk k r) ∧ rk k (fsub k x y) = r ∧ Rd k.format (sv k x - sv k y).natAbs 1 r := by
 obtain ⟨m, i, h1, h2, h3, _⟩ := read_fin hx
 obtain ⟨n, j, h4, h5, h6, _⟩ := read_fin hy
 have e : (if (!sgn k.format y) = true then -(V k.format (rk k y) : Int) else V k.format (rk k y)) = - sv k y := by
  unfold sv
  cases sgn k.format y <;> simp
 obtain ⟨r, u, h, hr, hu1, hu2⟩ := sum_S (okF k) (x := rk k x) (y := rk k y) (sgn k.format x) (!sgn k.format y) h2 h3 h5 h6 (S := sv k x - sv k y) (by rw [e, Int.sub_eq_add_neg]; rfl)
 refine ⟨r, ?_, ?_, hr⟩
 ·rw [fsub, Format.sub, h1, h4, Datum.opposite, h, fin, canon_word hr.1, svw_S hr hu1 hu2]
 ·rw [fsub, Format.sub, h1, h4, Datum.opposite, h, fin, canon_word hr.1, rk_word hr.1]
def ab (q : Rat) : Rat := if 0 ≤ q then q else -q
def fr (k : FloatKind) (x : Nat) : Rat := (sv k x : Rat) / (dn k : Rat)
def ep (k : FloatKind) : Rat := 1 / (k.format.binade : Rat)
def et (k : FloatKind) : Rat := 1 / (dn k : Rat)
def near (e a b : Rat) : Prop := a - b ≤ e ∧ b - a ≤ e
theorem dn_pos (k : FloatKind) : (0 : Rat) < (dn k : Rat) := Rat.natCast_pos.2 (Nat.two_pow_pos _)
theorem bi_pos (k : FloatKind) : (0 : Rat) < (k.format.binade : Rat) := Rat.natCast_pos.2 (binade_pos _)
theorem ab_nonneg (q : Rat) : 0 ≤ ab q := by grind [ab]
theorem ab_le {q m : Rat} (h1 : q ≤ m) (h2 : -m ≤ q) : ab q ≤ m := by grind [ab]
theorem le_ab (q : Rat) : q ≤ ab q := by grind [ab]
theorem mul_le_r {a b c : Rat} (hc : 0 ≤ c) (h : a ≤ b) : a * c ≤ b * c := Rat.mul_le_mul_of_nonneg_right h hc
theorem mul_nn {a b : Rat} (ha : 0 ≤ a) (hb : 0 ≤ b) : 0 ≤ a * b := Rat.mul_nonneg ha hb
theorem et_pos (k : FloatKind) : 0 < et k := by
 have := Rat.inv_pos.2 (dn_pos k)
 unfold et
 grind
theorem ab_mul (p q : Rat) : ab (p * q) = ab p * ab q := by
 unfold ab
 by_cases hp : 0 ≤ p <;> by_cases hq : 0 ≤ q
 ·rw [if_pos hp, if_pos hq, if_pos (mul_nn hp hq)]
 ·rw [if_pos hp, if_neg hq]
  have := mul_nn hp (show 0 ≤ -q by grind)
  split <;> grind
 ·rw [if_neg hp, if_pos hq]
  have := mul_nn (show 0 ≤ -p by grind) hq
  split <;> grind
 ·rw [if_neg hp, if_neg hq]
  have := mul_nn (show 0 ≤ -p by grind) (show 0 ≤ -q by grind)
  rw [if_pos (by grind)]
  grind
theorem ab_pos {q : Rat} (h : 0 ≤ q) : ab q = q := if_pos h
theorem ab_int (s : Int) : ab (s : Rat) = ((s.natAbs : Nat) : Rat) := by
 unfold ab
 split
 ·rename_i h
  have h1 : 0 ≤ s := by exact_mod_cast h
  have h2 : ((s.natAbs : Nat) : Int) = s := by omega
  have : (((s.natAbs : Nat) : Int) : Rat) = (s : Rat) := by rw [h2]
  rw [← this]
  push_cast
  rfl
 ·rename_i h
  have h1 : ¬ 0 ≤ s := fun h2 => h (by exact_mod_cast h2)
  have h2 : ((s.natAbs : Nat) : Int) = -s := by omega
  have : (((s.natAbs : Nat) : Int) : Rat) = ((-s : Int) : Rat) := by rw [h2]
  rw [Rat.intCast_neg] at this;rw [← this]
  push_cast
  rfl
theorem fr_mul (k : FloatKind) (x : Nat) : fr k x * (dn k : Rat) = (sv k x : Rat) := by
 have := dn_pos k
 unfold fr
 grind
theorem le_of_mul {q e p : Rat} (hp : 0 < p) (h : q * p ≤ e * p) : q ≤ e := by
 have h4 := mul_le_r (Rat.le_of_lt (Rat.inv_pos.2 hp)) h
 rw [Rat.mul_assoc, Rat.mul_assoc, Rat.mul_inv_cancel _ (Rat.ne_of_gt hp), Rat.mul_one, Rat.mul_one] at h4
 exact h4
theorem near_int {z S : Int} {e a b : Rat} (ha : a * (dn k : Rat) = (z : Rat)) (hb : b * (dn k : Rat) = (S : Rat)) {m : Nat} (h1 : (z - S) * (k.format.binade : Int) ≤ m) (h2 : (S - z) * (k.format.binade : Int) ≤ m) (he : (m : Rat) ≤ e * (dn k : Rat) * (k.format.binade : Rat)) : near e a b := by
 have hd := dn_pos k
 have hB := bi_pos k
 have c1 : ((z : Rat) - (S : Rat)) * (k.format.binade : Rat) ≤ (m : Rat) := by exact_mod_cast h1
 have c2 : ((S : Rat) - (z : Rat)) * (k.format.binade : Rat) ≤ (m : Rat) := by exact_mod_cast h2
 rw [← ha, ← hb] at c1 c2
 clear h1 h2 ha hb
 generalize (dn k : Rat) = D at *
 generalize (k.format.binade : Rat) = B at *
 generalize (m : Rat) = M at *
 have hp := Rat.mul_pos hd hB
 exact ⟨le_of_mul hp (by grind), le_of_mul hp (by grind)⟩
theorem err_S {f : Format} {S : Int} {r : Nat} (hr : Rd f S.natAbs 1 r) (h : r < f.infRung) : ((if S < 0 then -(V f r : Int) else V f r) - S) * (f.binade : Int) ≤ S.natAbs ∧ (S - (if S < 0 then -(V f r : Int) else V f r)) * (f.binade : Int) ≤ S.natAbs := by
 obtain ⟨h1, h2⟩ := Rd_err (by decide) hr h
 rw [Nat.mul_one] at h1 h2
 have g1 : (V f r - S.natAbs) * f.binade ≤ S.natAbs := by
  rcases h1 with h1 | h1
  ·exact h1
  ·rw [show V f r - S.natAbs = 0 by omega, Nat.zero_mul]; exact Nat.zero_le _
 have g2 : (S.natAbs - V f r) * f.binade ≤ S.natAbs := by
  rcases h2 with h2 | h2
  ·exact h2
  ·rw [show S.natAbs - V f r = 0 by omega, Nat.zero_mul]; exact Nat.zero_le _
 generalize V f r = v at *
 generalize f.binade = B at *
 have key : ∀ a b : Nat, (a - b) * B ≤ S.natAbs → ((a : Int) - b) * (B : Int) ≤ (S.natAbs : Int) := fun a b h => by
  rcases Nat.le_total b a with h3 | h3
  ·have : ((a - b : Nat) : Int) = (a : Int) - b := by omega
   rw [← this]
   exact_mod_cast h
  ·have h4 : ((a : Int) - b) ≤ 0 := by omega
   have := Int.mul_nonpos_of_nonpos_of_nonneg h4 (Int.natCast_nonneg B);omega
 have k1 := key _ _ g1
 have k2 := key _ _ g2
 split
 ·have e1 : -(v : Int) - S = (S.natAbs : Int) - v := by omega
  have e2 : S - -(v : Int) = (v : Int) - S.natAbs := by omega
  rw [e1, e2];exact ⟨k2, k1⟩
 ·have e1 : (v : Int) - S = (v : Int) - S.natAbs := by omega
  have e2 : S - (v : Int) = (S.natAbs : Int) - v := by omega
  rw [e1, e2];exact ⟨k1, k2⟩
theorem ep_bi (k : FloatKind) (q : Rat) : ep k * q * (k.format.binade : Rat) = q := by
 have := bi_pos k
 unfold ep
 grind
theorem add_E (hx : rk k x < inf k) (hy : rk k y < inf k) (hz : rk k (fadd k x y) < inf k) : near (ep k * ab (fr k x + fr k y)) (fr k (fadd k x y)) (fr k x + fr k y) := by
 obtain ⟨r, h1, h2, h3⟩ := add_S hx hy
 rw [h2] at hz
 obtain ⟨e1, e2⟩ := err_S h3 hz
 have hS : (fr k x + fr k y) * (dn k : Rat) = ((sv k x + sv k y : Int) : Rat) := by rw [Rat.add_mul, fr_mul, fr_mul, Rat.intCast_add]
 refine near_int (fr_mul k _) hS (m := (sv k x + sv k y).natAbs) (by rw [h1]; exact e1) (by rw [h1]; exact e2) ?_
 have : (((sv k x + sv k y).natAbs : Nat) : Rat) = ab (fr k x + fr k y) * (dn k : Rat) := by rw [← ab_int, ← hS, ab_mul, ab_pos (Rat.le_of_lt (dn_pos k))]
 rw [this, Rat.mul_assoc (ep k), ep_bi]
 exact Rat.le_refl
theorem sub_E (hx : rk k x < inf k) (hy : rk k y < inf k) (hz : rk k (fsub k x y) < inf k) : near (ep k * ab (fr k x - fr k y)) (fr k (fsub k x y)) (fr k x - fr k y) := by
 obtain ⟨r, h1, h2, h3⟩ := sub_S hx hy
 rw [h2] at hz
 obtain ⟨e1, e2⟩ := err_S h3 hz
 have hS : (fr k x - fr k y) * (dn k : Rat) = ((sv k x - sv k y : Int) : Rat) := by
  rw [Rat.intCast_sub, ← fr_mul, ← fr_mul]
  grind
 refine near_int (fr_mul k _) hS (m := (sv k x - sv k y).natAbs) (by rw [h1]; exact e1) (by rw [h1]; exact e2) ?_
 have : (((sv k x - sv k y).natAbs : Nat) : Rat) = ab (fr k x - fr k y) * (dn k : Rat) := by rw [← ab_int, ← hS, ab_mul, ab_pos (Rat.le_of_lt (dn_pos k))]
 rw [this, Rat.mul_assoc (ep k), ep_bi]
 exact Rat.le_refl
theorem err_R {f : Format} {N D r : Nat} (hD : 0 < D) (hr : Rd f N D r) (h : r < f.infRung) : (((V f r : Nat) : Rat) * (D : Rat) - (N : Rat)) * (f.binade : Rat) ≤ (N : Rat) + (D : Rat) * (f.binade : Rat) ∧ ((N : Rat) - ((V f r : Nat) : Rat) * (D : Rat)) * (f.binade : Rat) ≤ (N : Rat) + (D : Rat) * (f.binade : Rat) := by
 obtain ⟨h1, h2⟩ := Rd_err hD hr h
 have hB := binade_pos f
 generalize f.binade = B at *
 have key : ∀ a b : Nat, ((a - b) * B ≤ N ∨ a - b < D) → ((a : Rat) - (b : Rat)) * (B : Rat) ≤ (N : Rat) + (D : Rat) * (B : Rat) := fun a b h => by
  have h3 : (a - b) * B ≤ N + D * B := by
   rcases h with h | h
   ·omega
   ·exact Nat.le_trans (Nat.mul_le_mul_right _ (Nat.le_of_lt h)) (Nat.le_add_left _ _)
  have h4 : ((a : Int) - b) * (B : Int) ≤ (N : Int) + (D : Int) * (B : Int) := by
   rcases Nat.le_total b a with h5 | h5
   ·have : ((a - b : Nat) : Int) = (a : Int) - b := by omega
    rw [← this]
    exact_mod_cast h3
   ·have h6 : ((a : Int) - b) ≤ 0 := by omega
    have h7 := Int.mul_nonpos_of_nonpos_of_nonneg h6 (Int.natCast_nonneg B);have h8 : (0 : Int) ≤ (N : Int) + (D : Int) * (B : Int) := by have := Int.mul_nonneg (Int.natCast_nonneg D) (Int.natCast_nonneg B);omega
    omega
  have h9 := Rat.intCast_le_intCast.2 h4
  push_cast at h9
  exact h9
 have k1 := key _ _ h1
 have k2 := key _ _ h2
 rw [Rat.natCast_mul] at k1 k2
 exact ⟨k1, k2⟩
theorem mul_cancel {a b d : Rat} (hd : 0 < d) (h : a * d = b * d) : a = b := Rat.le_antisymm (le_of_mul hd (by rw [h]; exact Rat.le_refl)) (le_of_mul hd (by rw [h]; exact Rat.le_refl))
theorem sv_ab (x : Nat) : (sv k x).natAbs = Vk k (rk k x) := sv_abs k x
theorem ab_fr (x : Nat) : ab (fr k x) * (dn k : Rat) = ((Vk k (rk k x) : Nat) : Rat) := by
 have := ab_mul (fr k x) (dn k : Rat)
 rw [fr_mul, ab_int, sv_ab, ab_pos (Rat.le_of_lt (dn_pos k))] at this
 exact this.symm
theorem fr_cases (x : Nat) : (sgn k.format x = false ∧ fr k x * (dn k : Rat) = ((Vk k (rk k x) : Nat) : Rat)) ∨ (sgn k.format x = true ∧ fr k x * (dn k : Rat) = -((Vk k (rk k x) : Nat) : Rat)) := by
 rw [fr_mul]
 unfold sv
 cases sgn k.format x
 ·left
  rw [if_neg (by simp)]
  exact ⟨rfl, by push_cast; rfl⟩
 ·right
  rw [if_pos rfl];refine ⟨rfl, ?_⟩;rw [Rat.intCast_neg]
  push_cast
  rfl
theorem fr_word {u : Bool} {r : Nat} (h : r ≤ inf k) : fr k (k.format.word u r) * (dn k : Rat) = if u = true then -((Vk k r : Nat) : Rat) else ((Vk k r : Nat) : Rat) := by
 rw [fr_mul, svw h]
 cases u
 ·rw [if_neg (by simp), if_neg (by simp)]
  push_cast; rfl
 ·rw [if_pos rfl, if_pos rfl, Rat.intCast_neg]
  push_cast; rfl
theorem near_neg {e a b : Rat} (h : near e a b) : near e (-a) (-b) := by
 unfold near at *
 grind
theorem mul_E (hx : rk k x < inf k) (hy : rk k y < inf k) (hz : rk k (fmul k x y) < inf k) : near (ep k * ab (fr k x * fr k y) + et k) (fr k (fmul k x y)) (fr k x * fr k y) := by
 obtain ⟨r, h1, h2⟩ := fmul_R hx hy
 rw [h1, rk_word h2.1] at hz
 obtain ⟨e1, e2⟩ := err_R (Nat.two_pow_pos _) h2 hz
 have hw := fr_word (u := (sgn k.format x ^^ sgn k.format y)) h2.1
 have hD := dn_pos k
 have hB := bi_pos k
 rw [← h1] at hw
 have a1 := ab_fr (k := k) x
 have a2 := ab_fr (k := k) y
 rw [Rat.natCast_mul, ← a1, ← a2] at e1 e2
 have hep : ep k * (k.format.binade : Rat) = 1 := by have := ep_bi k 1; rwa [Rat.mul_one] at this
 have het : et k * (dn k : Rat) = 1 := by unfold et; grind
 rw [ab_mul]
 have n1 := ab_nonneg (fr k x)
 have n2 := ab_nonneg (fr k y)
 have hs : ∃ s : Rat, s * s = 1 ∧ fr k (fmul k x y) * (dn k : Rat) = s * ((Vk k r : Nat) : Rat) ∧ fr k x * fr k y = s * (ab (fr k x) * ab (fr k y)) := by
  have b1 : ∀ z, (sgn k.format z = false → fr k z = ab (fr k z)) ∧ (sgn k.format z = true → fr k z = -ab (fr k z)) := fun z => by
   have hz := ab_fr (k := k) z
   rcases fr_cases (k := k) z with ⟨c1, c2⟩ | ⟨c1, c2⟩
   ·exact ⟨fun _ => (by rw [← hz] at c2; exact mul_cancel hD c2), fun h => (by rw [c1] at h; cases h)⟩
   ·exact ⟨fun h => (by rw [c1] at h; cases h), fun _ => (by rw [← hz, ← Rat.neg_mul] at c2; exact mul_cancel hD c2)⟩
  have bx := b1 x;have by' := b1 y
  generalize ab (fr k x) = p at *;generalize ab (fr k y) = q at *
  cases hx' : sgn k.format x <;> cases hy' : sgn k.format y <;> rw [hx', hy'] at hw
  ·exact ⟨1, by grind, by rw [hw]; simp, by rw [bx.1 hx', by'.1 hy']; grind⟩
  ·exact ⟨-1, by grind, by rw [hw]; simp; grind, by rw [bx.1 hx', by'.2 hy']; grind⟩
  ·exact ⟨-1, by grind, by rw [hw]; simp; grind, by rw [bx.2 hx', by'.1 hy']; grind⟩
  ·exact ⟨1, by grind, by rw [hw]; simp, by rw [bx.2 hx', by'.2 hy']; grind⟩
 obtain ⟨s, s1, s2, s3⟩ := hs
 rw [s3]
 generalize fr k (fmul k x y) = z at *
 generalize ab (fr k x) = p at *
 generalize ab (fr k y) = q at *
 generalize ((Vk k r : Nat) : Rat) = v at *
 generalize (dn k : Rat) = D at *
 generalize (k.format.binade : Rat) = B at *
 generalize ep k = e at *
 generalize et k = t at *
 clear h1 h2 hz hx hy a1 a2 s3 hw
 have key : near (e * (p * q) + t) (s * z) (p * q) := by
  have hv : v = s * z * D := by grind
  rw [hv] at e1 e2;clear hv s2 s1;generalize s * z = Z at *;have hp := Rat.mul_pos (Rat.mul_pos hD hD) hB;have h1 : e * (p * q) * (D * D * B) = p * q * D * D := by grind
  have h2 : t * (D * D * B) = D * B := by grind
  exact ⟨le_of_mul hp (by grind), le_of_mul hp (by grind)⟩
 rcases (show s = 1 ∨ s = -1 by
  have : (s - 1) * (s + 1) = 0 := by grind
  rcases Rat.mul_eq_zero.1 this with h | h
  ·left; grind
  ·right; grind) with h | h
 ·rw [h, Rat.one_mul] at key ⊢
  exact key
 ·rw [h] at key ⊢
  have := near_neg key;unfold near at *
  grind
end Vs
namespace Vs
open Go Ieee
variable {k : FloatKind} {x y : Nat}
variable {c : Nat} {x' y' : Nat}
theorem V_rep (f : Format) {j : Nat} (hj : j < 2 ^ (f.fractionBits + 1)) : ∀ t, ∃ q, V f q = j * 2 ^ t
 | 0 => ⟨j, by rw [V_low (by rw [Nat.pow_succ] at hj; show j < 2 * 2 ^ f.fractionBits; omega), Nat.pow_zero, Nat.mul_one]⟩
 | t + 1 => by obtain ⟨q, hq⟩ := V_rep f hj t;obtain ⟨q', hq'⟩ := V_dbl f q;exact ⟨q', by rw [hq', hq, Nat.pow_succ]; generalize 2 ^ t = w; grind⟩
theorem V_top (f : Format) (r : Nat) : ∃ m c, V f r = m * 2 ^ c ∧ V f (r + 1) ≤ 2 ^ (f.fractionBits + 1 + c) := by
 have hbp := binade_pos f
 have hb : f.binade = 2 ^ f.fractionBits := rfl
 by_cases h1 : r < f.binade
 ·refine ⟨r, 0, by rw [V_low (by omega)]; simp, ?_⟩
  rw [V_low (by omega), Nat.add_zero, Nat.pow_succ]
  omega
 ·refine ⟨f.binade + r % f.binade, r / f.binade - 1, by unfold V; rw [if_neg h1], ?_⟩
  have hdm := Nat.div_add_mod r f.binade;have hm := Nat.mod_lt r hbp;have hq : 1 ≤ r / f.binade := (Nat.le_div_iff_mul_le hbp).2 (by omega)
  unfold V;rw [if_neg (by omega)]
  generalize hqe : r / f.binade = q at *;generalize hme : r % f.binade = m at *
  by_cases h3 : m + 1 < f.binade
  ·have e1 : (r + 1) / f.binade = q := by rw [← hdm, Nat.add_assoc, Nat.mul_add_div hbp, Nat.div_eq_of_lt h3, Nat.add_zero]
   have e2 : (r + 1) % f.binade = m + 1 := by rw [← hdm, Nat.add_assoc, Nat.mul_add_mod, Nat.mod_eq_of_lt h3]
   rw [e1, e2, Nat.pow_add, Nat.pow_succ, ← hb];exact Nat.mul_le_mul_right _ (by omega)
  ·have e0 : m + 1 = f.binade := by omega
   have e1 : (r + 1) / f.binade = q + 1 := by rw [← hdm, Nat.add_assoc, e0, Nat.mul_add_div hbp, Nat.div_self hbp]
   have e2 : (r + 1) % f.binade = 0 := by rw [← hdm, Nat.add_assoc, e0, Nat.mul_add_mod, Nat.mod_self]
   rw [e1, e2, Nat.add_zero, hb, ← Nat.pow_add];exact Nat.pow_le_pow_right (by decide) (by omega)
theorem rd_grid {f : Format} {N t r : Nat} (h : Rd f N 1 r) (hr : r < f.infRung) (ht : 2 ^ t ∣ N) : 2 ^ t ∣ V f r := by
 obtain ⟨m, c, h1, h2⟩ := V_top f r
 rcases Nat.lt_or_ge c t with hc | hc
 ·obtain ⟨j, hj⟩ := ht
  have up : N < V f (r + 1) := by
   rcases Nat.lt_or_ge N (V f (r + 1)) with h' | h'
   ·exact h'
   ·have := h.2.2 (r + 1) (by omega) (by omega); omega
  have hlt : 2 ^ t * j < 2 ^ t * 2 ^ (f.fractionBits + 1) := by rw [← hj, ← Nat.pow_add];exact Nat.lt_of_lt_of_le up (Nat.le_trans h2 (Nat.pow_le_pow_right (by decide) (by omega)))
  have hj2 : j < 2 ^ (f.fractionBits + 1) := Nat.lt_of_mul_lt_mul_left hlt;obtain ⟨q, hq⟩ := V_rep f hj2 t;have hN : N = V f q := by rw [hq, hj, Nat.mul_comm]
  have hqi : q ≤ f.infRung := by
   rcases Nat.lt_or_ge q (r + 1) with h' | h'
   ·omega
   ·have := V_mono f h'; omega
  have := h.exact hqi (by rw [Nat.mul_one]; exact hN)
  rw [this, ← hN, hj];exact Nat.dvd_mul_right _ _
 ·rw [h1]
  exact Nat.dvd_trans (Nat.pow_dvd_pow 2 hc) (Nat.dvd_mul_left _ _)
def gr (k : FloatKind) (t : Nat) (x : Nat) : Prop := 2 ^ t ∣ Vk k (rk k x)
theorem gr_sv {t : Nat} (h : gr k t x) : ((2 ^ t : Nat) : Int) ∣ sv k x := by
 have : ((2 ^ t : Nat) : Int) ∣ ((Vk k (rk k x) : Nat) : Int) := Int.natCast_dvd_natCast.2 h
 unfold sv
 split
 ·exact Int.dvd_neg.2 this
 ·exact this
theorem gr_add {t : Nat} (hx : rk k x < inf k) (hy : rk k y < inf k) (hz : rk k (fadd k x y) < inf k) (gx : gr k t x) (gy : gr k t y) : gr k t (fadd k x y) := by
 obtain ⟨r, _, h2, h3⟩ := add_S hx hy
 unfold gr
 rw [h2] at hz ⊢
 exact rd_grid h3 hz (Int.ofNat_dvd_left.1 (Int.dvd_add (gr_sv gx) (gr_sv gy)))
end Vs
namespace Vs
open Go Ieee
variable {k : FloatKind} {x y x' y' : Nat} {c : Nat}
theorem read_zero (h : rk k x = 0) : k.format.read x = .number (sgn k.format x) 0 k.format.leastPlace := by
 have hb := binade_pos k.format
 unfold Format.read
 simp only
 have e : x % k.format.signWeight = rk k x := rfl
 rw [e, h, if_pos hb]
 rfl
theorem cw_pos : 0 < cw := by decide +kernel
theorem inf_ws : V single single.infRung * cw ≤ V double double.infRung := by decide +kernel
theorem wide_sv (hx : rk .f32 x < inf .f32) : rk .f64 (wide x) < inf .f64 ∧ sv .f64 (wide x) = sv .f32 x * (cw : Int) ∧ sgn double (wide x) = sgn single x := by
 obtain ⟨r, h1, h2, h3, h4⟩ := wide_word hx
 obtain ⟨m, e, hm, hlt⟩ := V_form single (rk .f32 x)
 obtain ⟨q, hq⟩ := V_rep double (j := m) (Nat.lt_of_lt_of_le hlt (by decide)) (e + 925)
 have hv : Vk .f32 (rk .f32 x) * cw = Vk .f64 q := by
  rw [show Vk .f64 q = _ from hq, show Vk .f32 (rk .f32 x) = _ from hm, Nat.pow_add, Nat.mul_assoc]
  rfl
 have hqi : q ≤ inf .f64 := by
  rcases Nat.lt_or_ge (inf .f64) q with h | h
  ·have a1 : V double double.infRung < V double q := V_strict double h
   have a3 : V single (rk .f32 x) < V single single.infRung := V_strict single hx;have a4 : V single (rk .f32 x) * cw < V single single.infRung * cw := Nat.mul_lt_mul_of_pos_right a3 cw_pos;have a6 : V double q = V single (rk .f32 x) * cw := hv.symm;have a7 := inf_ws;omega
  ·exact h
 have hr : r = q := Nat.le_antisymm (h3 q hqi (Nat.le_of_eq hv)) (h4 q hqi (Nat.le_of_eq hv.symm))
 subst hr
 have hs : sgn double (wide x) = sgn single x := by rw [h1]; exact word_sgn okD (Nat.le_of_lt h2)
 have hk : rk .f64 (wide x) = r := by rw [h1]; exact word_rg okD (Nat.le_of_lt h2)
 refine ⟨by rw [hk]; exact h2, ?_, hs⟩
 show (if sgn double (wide x) = true then -(Vk .f64 (rk .f64 (wide x)) : Int) else Vk .f64 (rk .f64 (wide x))) = (if sgn single x = true then -(Vk .f32 (rk .f32 x) : Int) else Vk .f32 (rk .f32 x)) * (cw : Int)
 rw [hs, hk, ← hv]
 generalize cw = W
 split
 ·push_cast; rw [Int.neg_mul]
 ·push_cast; rfl
theorem narrow_N {y : Nat} (hy : rk .f64 y < inf .f64) (h : rungN single (Vk .f64 (rk .f64 y)) (-1074) < single.infRung) : f2f .f64 .f32 y = some (single.word (sgn double y) (rungN single (Vk .f64 (rk .f64 y)) (-1074))) := by
 obtain ⟨m, e, h1, h2, h3, _⟩ := read_fin hy
 obtain ⟨r, hr, hB⟩ := nearest_R (f := single) (sgn double y) m e
 have hr2 := hB (-1074) (by rw [lpD] at h2; exact h2) (by decide)
 rw [lpD] at h3
 have h3' : m * 2 ^ (e - -1074).toNat = V double (rk .f64 y) := h3
 rw [h3'] at hr2
 rw [← show r = rungN single (Vk .f64 (rk .f64 y)) (-1074) from hr2] at h ⊢
 have hd : FloatKind.f64.decode y = .number (sgn double y) m e := h1
 have hen : FloatKind.f32.encode (.number (sgn double y) m e) = single.word (sgn double y) r := hr
 unfold f2f
 rw [if_neg (by decide), hd]
 simp only [hen]
 have h5 : (FloatKind.f32.decode (single.word (sgn double y) r)).isInfinity = false := read_word okS.hw h
 rw [h5]
 simp only [Bool.false_eq_true, if_false]
 exact congrArg some (canon_word (k := .f32) (Nat.le_of_lt h))
theorem rootFrom_lt (n : Nat) : ∀ (todo root : Nat), n < (root + 2 ^ todo) * (root + 2 ^ todo) → n < (Datum.rootFrom n todo root + 1) * (Datum.rootFrom n todo root + 1)
 | 0, root, h => by simpa [Datum.rootFrom] using h
 | todo + 1, root, h => by
  unfold Datum.rootFrom;simp only [Nat.shiftLeft_eq, Nat.one_mul];have e : root + 2 ^ (todo + 1) = root + 2 ^ todo + 2 ^ todo := by rw [Nat.pow_succ]; omega
  split
  ·refine rootFrom_lt n todo _ ?_
   rw [← e]; exact h
  ·rename_i hl
   exact rootFrom_lt n todo _ (by omega)
theorem rootFrom_two {n : Nat} : Datum.rootFrom n (n.log2 / 2 + 1) 0 * Datum.rootFrom n (n.log2 / 2 + 1) 0 ≤ n ∧ n < (Datum.rootFrom n (n.log2 / 2 + 1) 0 + 1) * (Datum.rootFrom n (n.log2 / 2 + 1) 0 + 1) := by
 refine ⟨rootFrom_sq n _ 0 (by simp), rootFrom_lt n _ 0 ?_⟩
 rw [Nat.zero_add, ← Nat.pow_add]
 have h1 : n < 2 ^ (n.log2 + 1) := Nat.lt_log2_self
 exact Nat.lt_of_lt_of_le h1 (Nat.pow_le_pow_right (by decide) (by omega))
theorem root_datum {digits m : Nat} {i : Int} (hm : m ≠ 0) : ∃ (more whole M : Nat) (P : Int), Datum.root digits (.number false m i) = some (.number false M P) ∧ 2 * digits ≤ m.log2 + more ∧ whole * whole ≤ m * 2 ^ more ∧ m * 2 ^ more < (whole + 1) * (whole + 1) ∧
  (M = 2 * whole ∧ whole * whole = m * 2 ^ more ∨ M = 2 * whole + 1) ∧ 2 * P = i - more - 2 ∧ ∀ c : Nat, Datum.root digits (.number false m (i + (2 * c : Nat))) = some (.number false M (P + c)) := by
 simp only [Datum.root, if_neg hm, Bool.false_eq_true, if_false]
 generalize hmore : 2 * digits - m.log2 + ((i - ((2 * digits - m.log2 : Nat) : Int)) % 2).toNat = more
 have hmore' : ∀ c : Nat, 2 * digits - m.log2 + ((i + ((2 * c : Nat) : Int) - ((2 * digits - m.log2 : Nat) : Int)) % 2).toNat = more := fun c => by omega
 obtain ⟨h1, h2⟩ := rootFrom_two (n := m <<< more)
 have hn : m <<< more = m * 2 ^ more := Nat.shiftLeft_eq ..
 generalize hw : Datum.rootFrom (m <<< more) ((m <<< more).log2 / 2 + 1) 0 = whole at *
 rw [hn] at h1 h2
 refine ⟨more, whole, _, _, rfl, by omega, h1, h2, ?_, by omega, fun c => ?_⟩
 ·rw [hn]
  by_cases h : whole * whole = m * 2 ^ more
  ·left
   rw [h];simp
  ·right
   have : (whole * whole != m * 2 ^ more) = true := by simpa using h
   rw [this];rfl
 ·rw [hmore' c, hw]
  congr 2
  omega
def rel (e a b : Rat) : Prop := a ≤ b + b * e ∧ b ≤ a + a * e
theorem rel_trans {e f g a b d : Rat} (h1 : rel e a b) (h2 : rel f b d) (he : 0 ≤ e) (hf : 0 ≤ f) (ha : 0 ≤ a) (hd : 0 ≤ d) (hg : e + f + e * f ≤ g) : rel g a d := by
 obtain ⟨p1, p2⟩ := h1
 obtain ⟨q1, q2⟩ := h2
 have m1 := mul_le_r (show 0 ≤ 1 + e by grind) q1
 have m2 := mul_le_r (show 0 ≤ 1 + f by grind) p2
 have m3 := mul_le_r hd hg
 have m4 := mul_le_r ha hg
 constructor <;> grind
theorem sq_near {a v e : Rat} (he : 0 ≤ e) (he2 : e ≤ 1 / 1000) (hv : 0 ≤ v) (h1 : a ≤ v + e * v) (h2 : v ≤ a + e * v) : rel (3 * e) (a * a) (v * v) := by
 have hev := mul_nn he hv
 have hve : e * v ≤ 1 / 1000 * v := mul_le_r hv he2
 have ha : 0 ≤ a := by grind
 have hvv := mul_nn hv hv
 have p1 : a * a ≤ (v + e * v) * a := mul_le_r ha h1
 have p2 : a * (v + e * v) ≤ (v + e * v) * (v + e * v) := mul_le_r (show 0 ≤ v + e * v by grind) h1
 have b0 : 0 ≤ v - e * v := by grind
 have q1 : (v - e * v) * (v - e * v) ≤ a * (v - e * v) := mul_le_r b0 (by grind)
 have q2 : (v - e * v) * a ≤ a * a := mul_le_r ha (by grind)
 have ee : e * e ≤ 1 / 1000 * e := mul_le_r he he2
 have eev := mul_le_r hvv ee
 have ev := mul_le_r hvv he2
 have e0 := mul_nn he hvv
 have q3 : (v - e * v) * (v - e * v) ≤ a * a := by grind
 have q4 := mul_le_r (show 0 ≤ 1 + 3 * e by grind) q3
 have e3 : 0 ≤ e * (e * (e * (v * v))) := mul_nn he (mul_nn he e0)
 constructor
 ·grind
 ·have : v * v ≤ (v - e * v) * (v - e * v) * (1 + 3 * e) := by
   have : (v - e * v) * (v - e * v) * (1 + 3 * e) = v * v + e * (v * v) - 5 * (e * e * (v * v)) + 3 * (e * (e * (e * (v * v)))) := by grind
   grind
  grind
def tp (e : Int) : Rat := (2 : Rat) ^ e
theorem tp_add (a b : Int) : tp (a + b) = tp a * tp b := Rat.zpow_add (by decide) a b
theorem tp_pos (e : Int) : 0 < tp e := Rat.zpow_pos (by decide)
theorem tp_nat (n : Nat) : tp (n : Int) = ((2 ^ n : Nat) : Rat) := by
 unfold tp
 rw [Rat.zpow_natCast]
 push_cast
 rfl
theorem tp_toNat {e : Int} (h : 0 ≤ e) : ((2 ^ e.toNat : Nat) : Rat) = tp e := by rw [← tp_nat, Int.toNat_of_nonneg h]
theorem dn_tp : (dn k : Rat) = tp (-k.format.leastPlace) := tp_toNat (by have := (okF k).hU; omega)
theorem fr_num {m : Nat} {i : Int} (h : k.format.leastPlace ≤ i) (hm : m * 2 ^ (i - k.format.leastPlace).toNat = Vk k (rk k x)) (hs : sgn k.format x = false) : fr k x = (m : Rat) * tp i := by
 have hd := dn_pos k
 refine mul_cancel hd ?_
 rcases fr_cases (k := k) x with ⟨_, e⟩ | ⟨e, _⟩
 ·rw [e, ← hm, Rat.natCast_mul, tp_toNat (by omega), dn_tp, Rat.mul_assoc, ← tp_add, Int.sub_eq_add_neg]
 ·rw [hs] at e; cases e
theorem sqrt_word {z : Nat} {M : Nat} {P : Int} (h : (k.format.read z).root (k.format.fractionBits + 2) = some (.number false M P)) : ∃ r, fsqrt k z = k.format.word false r ∧ ∀ B, B ≤ P → B ≤ k.format.leastPlace → r = rungN k.format (M * 2 ^ (P - B).toNat) B := by
 obtain ⟨r, hr, hB⟩ := nearest_R (f := k.format) false M P
 have hi : r ≤ k.format.infRung := by rw [hB (min P k.format.leastPlace) (by omega) (by omega)]; exact rungN_le_inf _ _ _
 refine ⟨r, ?_, hB⟩
 unfold fsqrt Format.sqrt
 rw [h]
 show canon k (k.format.nearest false M P) = _
 rw [hr, canon_word hi]
theorem tp_zero : tp 0 = 1 := by unfold tp; rfl
theorem tp_mono {a b : Int} (h : a ≤ b) : tp a ≤ tp b := by
 have e : b = a + ((b - a).toNat : Int) := by omega
 rw [e, tp_add, tp_nat]
 have h1 : (1 : Rat) ≤ ((2 ^ (b - a).toNat : Nat) : Rat) := by
  have : 1 ≤ 2 ^ (b - a).toNat := Nat.one_le_two_pow
  exact_mod_cast this
 have := Rat.mul_le_mul_of_nonneg_left h1 (Rat.le_of_lt (tp_pos a))
 rw [Rat.mul_one] at this
 exact this
theorem root_whole {n w : Nat} (h : n < (w + 1) * (w + 1)) (hn : 2 ^ 108 ≤ n) : 2 ^ 54 ≤ w := by
 rcases Nat.lt_or_ge w (2 ^ 54) with h1 | h1
 ·have h2 : (w + 1) * (w + 1) ≤ 2 ^ 54 * 2 ^ 54 := Nat.mul_le_mul h1 h1
  have h3 : (2 : Nat) ^ 54 * 2 ^ 54 = 2 ^ 108 := by decide
  omega
 ·exact h1
theorem root_sq {n w M : Nat} (h1 : w * w ≤ n) (h2 : n < (w + 1) * (w + 1)) (hw : 2 ^ 54 ≤ w) (hM : M = 2 * w ∧ w * w = n ∨ M = 2 * w + 1) : rel (1 / 4503599627370496) ((M : Rat) * (M : Rat)) (4 * (n : Rat)) := by
 have b1 : (w : Rat) * (w : Rat) ≤ (n : Rat) := by exact_mod_cast h1
 have h2' : n ≤ w * w + 2 * w := by
  have : (w + 1) * (w + 1) = w * w + 2 * w + 1 := by grind
  omega
 have b2 : (n : Rat) ≤ (w : Rat) * (w : Rat) + 2 * (w : Rat) := by exact_mod_cast h2'
 have b3 : (18014398509481984 : Rat) ≤ (w : Rat) := by exact_mod_cast hw
 have b4 := mul_le_r (show (0 : Rat) ≤ (w : Rat) by grind) b3
 rcases hM with ⟨rfl, e⟩ | rfl
 ·have e' : (w : Rat) * (w : Rat) = (n : Rat) := by exact_mod_cast e
  push_cast
  constructor <;> grind
 ·push_cast
  constructor <;> grind
theorem near_cut {a b l s v : Rat} (hb : 0 < b) (hlp : l ≤ s * (1 / 9007199254740992)) (hvl : s ≤ v) (g1 : (a * b - v * b) * 4503599627370496 ≤ v * b + l * b * 4503599627370496) (g2 : (v * b - a * b) * 4503599627370496 ≤ v * b + l * b * 4503599627370496) :
  a ≤ v + 1 / 2251799813685248 * v ∧ v ≤ a + 1 / 2251799813685248 * v := by
 have m1 := mul_le_r (Rat.le_of_lt hb) hlp
 have m2 := mul_le_r (Rat.le_of_lt hb) hvl
 exact ⟨le_of_mul hb (by grind), le_of_mul hb (by grind)⟩
theorem sqrt_E {z : Nat} (hs : sgn double z = false) (hz : rk .f64 z < inf .f64) (h0 : tp (-200) ≤ fr .f64 z) (hi : rk .f64 (fsqrt .f64 z) < inf .f64) :
  0 ≤ fr .f64 (fsqrt .f64 z) ∧ rel (1 / 281474976710656) (fr .f64 (fsqrt .f64 z) * fr .f64 (fsqrt .f64 z)) (fr .f64 z) := by
 obtain ⟨m, i, h1, h2, h3, h4, _⟩ := read_fin hz
 have hX := fr_num (k := .f64) h2 h3 hs
 have hm : m ≠ 0 := by
  intro e;have := tp_pos (-200);rw [e] at hX
  grind
 have hs' : sgn FloatKind.f64.format z = false := hs
 rw [hs'] at h1
 obtain ⟨more, w, M, P, d1, d2, d3, d4, d5, d6, _⟩ := root_datum (digits := FloatKind.f64.format.fractionBits + 2) (i := i) hm
 rw [← h1] at d1
 obtain ⟨r, w1, w2⟩ := sqrt_word d1
 have hn : 2 ^ 108 ≤ m * 2 ^ more := by have a1 := Nat.mul_le_mul_right (2 ^ more) (Nat.log2_self_le hm);rw [← Nat.pow_add] at a1;exact Nat.le_trans (Nat.pow_le_pow_right (by decide) (show 108 ≤ m.log2 + more by have : FloatKind.f64.format.fractionBits = 52 := rfl; omega)) a1
 have hw := root_whole d4 hn
 have hrel := root_sq d3 d4 hw d5
 have hu := tp_pos (2 * P)
 have hX' : fr .f64 z = 4 * ((m * 2 ^ more : Nat) : Rat) * tp (2 * P) := by
  rw [hX, Rat.natCast_mul, ← tp_nat, show i = (more : Int) + (2 + 2 * P) by omega, tp_add, tp_add, show tp 2 = 4 by unfold tp; rfl]
  grind
 have hv2 : ((M : Rat) * tp P) * ((M : Rat) * tp P) = (M : Rat) * (M : Rat) * tp (2 * P) := by
  rw [show (2 * P : Int) = P + P by omega, tp_add]
  grind
 have hvX : rel (1 / 4503599627370496) (((M : Rat) * tp P) * ((M : Rat) * tp P)) (fr .f64 z) := by
  rw [hv2, hX'];obtain ⟨p1, p2⟩ := hrel;have q1 := mul_le_r (Rat.le_of_lt hu) p1;have q2 := mul_le_r (Rat.le_of_lt hu) p2
  constructor <;> grind
 have hM0 : (0 : Rat) ≤ (M : Rat) := by exact_mod_cast Nat.zero_le M
 have hv0 : 0 ≤ (M : Rat) * tp P := mul_nn hM0 (Rat.le_of_lt (tp_pos P))
 have hvl : tp (-102) ≤ (M : Rat) * tp P := by
  rcases (Rat.le_total : tp (-102) ≤ (M : Rat) * tp P ∨ (M : Rat) * tp P ≤ tp (-102)) with h | h
  ·exact h
  ·exfalso
   have a1 := mul_le_r hv0 h;have a2 := Rat.mul_le_mul_of_nonneg_left h (Rat.le_of_lt (tp_pos (-102)));have a3 : tp (-102) * tp (-102) = tp (-204) := by rw [← tp_add]; congr 1
   have a4 : tp (-200) = tp (-204) * 16 := by rw [show (-200 : Int) = -204 + 4 by omega, tp_add, show tp 4 = 16 by unfold tp; rfl]
   have a5 := tp_pos (-204);obtain ⟨_, p2⟩ := hvX;generalize tp (-102) = b1 at *;generalize tp (-204) = b2 at *;generalize tp (-200) = b3 at *;generalize (M : Rat) * tp P = v at *
   grind
 have hB : min P double.leastPlace ≤ P ∧ min P double.leastPlace ≤ double.leastPlace := by omega
 generalize min P double.leastPlace = B at hB
 have e1 := w2 B hB.1 hB.2
 have hri : r ≤ inf .f64 := by rw [e1]; exact rungN_le_inf _ _ _
 have k1 : rk .f64 (fsqrt .f64 z) = r := by rw [w1, rk_word hri]
 have hRd : Rd double (M * 2 ^ (P - B).toNat) (2 ^ (double.leastPlace - B).toNat) r :=
  ⟨hri, fun q hq h => by rw [e1]; exact rung_le okD hB.2 hq h, fun q hq h => by rw [e1]; exact le_rung okD hB.2 hq h⟩
 obtain ⟨g1, g2⟩ := err_R (Nat.two_pow_pos _) hRd (by rw [← k1]; exact hi)
 have hfr : fr .f64 (fsqrt .f64 z) * tp (-double.leastPlace) = ((V double r : Nat) : Rat) := by
  have := fr_word (k := .f64) (u := false) hri;rw [← w1, if_neg (by simp), dn_tp] at this
  exact this
 have hbi : ((double.binade : Nat) : Rat) = 4503599627370496 := by
  have : double.binade = 4503599627370496 := by decide
  rw [this]; rfl
 rw [← hfr, Rat.natCast_mul, tp_toNat (by omega), tp_toNat (by omega), hbi] at g1 g2
 have c1 : tp (-double.leastPlace) * tp (double.leastPlace - B) = tp (-B) := by rw [← tp_add]; congr 1; omega
 have c2 : tp (P - B) = tp P * tp (-B) := by rw [← tp_add]; congr 1
 have c3 : tp (double.leastPlace - B) = tp double.leastPlace * tp (-B) := by rw [← tp_add]; congr 1
 have hlp : tp double.leastPlace ≤ tp (-102) * (1 / 9007199254740992) := by
  have : tp double.leastPlace ≤ tp (-155) := tp_mono (by decide)
  have e : tp (-102) = tp (-155) * 9007199254740992 := by rw [show (-102 : Int) = -155 + 53 by omega, tp_add, show tp 53 = 9007199254740992 by unfold tp; rfl]
  grind
 rw [Rat.mul_assoc, c1, c2, c3] at g1 g2
 have hb := tp_pos (-B)
 have hl0 := tp_pos double.leastPlace
 clear hfr c1 c2 c3 hX hX' hv2 hrel w1 w2 hRd e1 d1 h1
 generalize fr .f64 (fsqrt .f64 z) = a at *
 generalize tp (-B) = b at *
 generalize tp double.leastPlace = l at *
 generalize tp (-102) = s at *
 rw [← Rat.mul_assoc (M : Rat)] at g1 g2
 obtain ⟨k2, k3⟩ := near_cut hb hlp hvl g1 g2
 have hsq := sq_near (by grind) (by grind) hv0 k2 k3
 have hXn : 0 ≤ fr .f64 z := Rat.le_trans (Rat.le_of_lt (tp_pos _)) h0
 refine ⟨by grind, rel_trans hsq hvX (by grind) (by grind) ?_ hXn (by grind)⟩
 have ha0 : 0 ≤ a := by grind
 exact mul_nn ha0 ha0
theorem sqrt_fin {x : Nat} (hx : rk .f32 x < inf .f32) (hs : sgn single x = false) : rk .f64 (fsqrt .f64 (wide x)) < inf .f64 ∧ sgn double (fsqrt .f64 (wide x)) = false := by
 obtain ⟨hw, _, hws⟩ := wide_sv hx
 obtain ⟨m, i, h1, h2, _⟩ := read_fin hw
 rw [show sgn FloatKind.f64.format (wide x) = false by rw [← hs]; exact hws] at h1
 by_cases hm : m = 0
 ·have h3 : fsqrt .f64 (wide x) = double.word false 0 := by
   unfold fsqrt Format.sqrt;rw [h1, hm];show canon .f64 (double.nearest false 0 i) = _;have : double.nearest false 0 i = double.word false 0 := by unfold Format.nearest; rw [if_pos rfl]
   rw [this];exact canon_word (k := .f64) (Nat.zero_le _)
  rw [h3];exact ⟨by decide, by decide⟩
 ·obtain ⟨more, w, M, P, d1, _⟩ := root_datum (digits := FloatKind.f64.format.fractionBits + 2) (i := i) hm
  obtain ⟨t, m', e', he, h5⟩ := root_crude d1 (wide_crude (x := x) h1);simp only [Datum.number.injEq] at he;obtain ⟨rfl, rfl, rfl⟩ := he;obtain ⟨r', g1, g2⟩ := nearest_crude (f := double) (neg := false) (L := 66) h5 (by decide)
  have h3 : fsqrt .f64 (wide x) = double.word false r' := by unfold fsqrt Format.sqrt;rw [h1, d1];show canon .f64 (double.nearest false M P) = _;rw [g1];exact canon_word (k := .f64) (Nat.le_trans g2 (by decide))
  have hi : r' ≤ double.infRung := Nat.le_trans g2 (by decide)
  rw [h3];refine ⟨?_, word_sgn okD hi⟩;show rg double _ < _;rw [word_rg okD hi];exact Nat.lt_of_le_of_lt g2 (by decide)
theorem rootP_N {x : Nat} (hx : rk .f32 x < inf .f32) (hs : sgn single x = false) :
  rootP x = single.word false (rungN single (Vk .f64 (rk .f64 (fsqrt .f64 (wide x)))) (-1074)) ∧ rungN single (Vk .f64 (rk .f64 (fsqrt .f64 (wide x)))) (-1074) < single.infRung := by
 obtain ⟨hf, hsw⟩ := sqrt_fin hx hs
 have h := f2f_root x
 generalize fsqrt .f64 (wide x) = y at *
 have key : rungN single (Vk .f64 (rk .f64 y)) (-1074) < single.infRung := by
  rcases Nat.lt_or_ge (rungN single (Vk .f64 (rk .f64 y)) (-1074)) single.infRung with h1 | h1
  ·exact h1
  ·exfalso
   have h2 : rungN single (Vk .f64 (rk .f64 y)) (-1074) = single.infRung := Nat.le_antisymm (rungN_le_inf _ _ _) h1;obtain ⟨m, e, q1, q2, q3, _⟩ := read_fin hf;obtain ⟨r, hr, hB⟩ := nearest_R (f := single) (sgn double y) m e;have hr2 := hB (-1074) (by rw [lpD] at q2; exact q2) (by decide)
   rw [lpD] at q3;have q3' : m * 2 ^ (e - -1074).toNat = V double (rk .f64 y) := q3;rw [q3', show rungN single (V double (rk .f64 y)) (-1074) = single.infRung from h2] at hr2
   have hd : FloatKind.f64.decode y = .number (sgn double y) m e := q1;have hen : FloatKind.f32.encode (.number (sgn double y) m e) = single.word (sgn double y) r := hr;unfold f2f at h;rw [if_neg (by decide), hd] at h
   simp only [hen, hr2] at h;have h5 : ∀ s, (FloatKind.f32.decode (single.word s single.infRung)).isInfinity = true := by decide
   rw [h5] at h;simp at h
 have h2 := narrow_N hf key
 rw [h, hsw] at h2
 exact ⟨Option.some.inj h2, key⟩
theorem fr_wide {x : Nat} (hx : rk .f32 x < inf .f32) : fr .f64 (wide x) = fr .f32 x := by
 obtain ⟨_, h, _⟩ := wide_sv hx
 have h1 := fr_mul .f64 (wide x)
 have h2 := fr_mul .f32 x
 rw [h, Rat.intCast_mul, ← h2] at h1
 have h3 : (dn .f64 : Rat) = (dn .f32 : Rat) * ((cw : Int) : Rat) := by
  have : dn .f64 = dn .f32 * cw := by decide +kernel
  rw [this]
  push_cast
  rfl
 rw [h3, ← Rat.mul_assoc] at h1
 have hc : (0 : Rat) < ((cw : Int) : Rat) := by
  have := cw_pos
  exact_mod_cast this
 exact mul_cancel (dn_pos .f32) (mul_cancel hc h1)
theorem fr_low {x : Nat} (hs : sgn single x = false) (h0 : 0 < rk .f32 x) : tp (-149) ≤ fr .f32 x := by
 have h1 : 1 ≤ Vk .f32 (rk .f32 x) := V_pos h0
 have h2 : (1 : Rat) ≤ ((Vk .f32 (rk .f32 x) : Nat) : Rat) := by exact_mod_cast h1
 rcases fr_cases (k := .f32) x with ⟨_, e⟩ | ⟨e, _⟩
 ·rw [← e] at h2
  refine le_of_mul (dn_pos .f32) ?_;have : tp (-149) * (dn .f32 : Rat) = 1 := by
   rw [dn_tp, show -FloatKind.f32.format.leastPlace = 149 by decide, ← tp_add]
   exact tp_zero
  rw [this];exact h2
 ·rw [show sgn FloatKind.f32.format x = false from hs] at e; cases e
theorem root_cut {X a L : Rat} (hX : tp (-149) ≤ X) (ha : 0 ≤ a) (h1 : rel (1 / 281474976710656) (a * a) X) (g1 : (L - a) * 8388608 ≤ a + tp (-149) * 8388608) (g2 : (a - L) * 8388608 ≤ a + tp (-149) * 8388608) : 0 ≤ L ∧ rel (1 / 1000000) (L * L) X ∧ tp (-77) ≤ L := by
 have hal : tp (-76) ≤ a := by
  rcases (Rat.le_total : tp (-76) ≤ a ∨ a ≤ tp (-76)) with h | h
  ·exact h
  ·exfalso
   have a1 := mul_le_r ha h;have a2 := Rat.mul_le_mul_of_nonneg_left h (Rat.le_of_lt (tp_pos (-76)));have a3 : tp (-76) * tp (-76) = tp (-152) := by rw [← tp_add]; congr 1
   have a4 : tp (-149) = tp (-152) * 8 := by rw [show (-149 : Int) = -152 + 3 by omega, tp_add, show tp 3 = 8 by unfold tp; rfl]
   have a5 := tp_pos (-152);obtain ⟨_, p2⟩ := h1;generalize tp (-76) = b1 at *;generalize tp (-152) = b2 at *;generalize tp (-149) = b3 at *
   grind
 have hlp : tp (-149) ≤ tp (-76) * (1 / 1073741824) := by
  have : tp (-149) ≤ tp (-106) := tp_mono (by decide)
  have e : tp (-76) = tp (-106) * 1073741824 := by rw [show (-76 : Int) = -106 + 30 by omega, tp_add, show tp 30 = 1073741824 by unfold tp; rfl]
  grind
 have e77 : tp (-76) = tp (-77) * 2 := by rw [show (-76 : Int) = -77 + 1 by omega, tp_add, show tp 1 = 2 by unfold tp; rfl]
 have p77 := tp_pos (-77)
 have hX0 : 0 ≤ X := Rat.le_trans (Rat.le_of_lt (tp_pos _)) hX
 have p149 := tp_pos (-149)
 generalize tp (-149) = l at *
 generalize tp (-76) = s at *
 generalize tp (-77) = s7 at *
 have k2 : L ≤ a + 1 / 4194304 * a := by grind
 have k3 : a ≤ L + 1 / 4194304 * a := by grind
 have hL : 0 ≤ L := by grind
 exact ⟨hL, rel_trans (sq_near (by grind) (by grind) ha k2 k3) h1 (by grind) (by grind) (mul_nn hL hL) hX0 (by grind), by grind⟩
theorem near_cut2 {L a D C l : Rat} (hd : 0 < D) (hc : 0 < C) (h1 : l * D = 1) (g1 : (L * D * C - a * (D * C)) * 8388608 ≤ a * (D * C) + C * 8388608) (g2 : (a * (D * C) - L * D * C) * 8388608 ≤ a * (D * C) + C * 8388608) :
  (L - a) * 8388608 ≤ a + l * 8388608 ∧ (a - L) * 8388608 ≤ a + l * 8388608 := by
 have h2 : l * (D * C) = C := by rw [← Rat.mul_assoc, h1, Rat.one_mul]
 have hp := Rat.mul_pos hd hc
 exact ⟨le_of_mul hp (by grind), le_of_mul hp (by grind)⟩
theorem root_E {x : Nat} (hx : rk .f32 x < inf .f32) (hs : sgn single x = false) (h0 : 0 < rk .f32 x) :
  (0 ≤ fr .f32 (rootP x) ∧ rel (1 / 1000000) (fr .f32 (rootP x) * fr .f32 (rootP x)) (fr .f32 x)) ∧ sgn single (rootP x) = false ∧ rk .f32 (rootP x) < inf .f32 ∧ single.binade < rk .f32 (rootP x) ∧ tp (-77) ≤ fr .f32 (rootP x) := by
 obtain ⟨hf, hsw⟩ := sqrt_fin hx hs
 obtain ⟨n1, n2⟩ := rootP_N hx hs
 obtain ⟨hw, _, hws⟩ := wide_sv hx
 have hlow := fr_low hs h0
 have hfw := fr_wide hx
 obtain ⟨e0, e1⟩ := sqrt_E (z := wide x) (by rw [hws]; exact hs) hw (by rw [hfw]; exact Rat.le_trans (tp_mono (by decide)) hlow) hf
 rw [hfw] at e1
 have hlt := Nat.le_of_lt n2
 have k1 : rk .f32 (rootP x) = rungN single (Vk .f64 (rk .f64 (fsqrt .f64 (wide x)))) (-1074) := by rw [n1]; exact word_rg okS hlt
 have k2 : sgn single (rootP x) = false := by rw [n1]; exact word_sgn okS hlt
 have hRd : Rd single (Vk .f64 (rk .f64 (fsqrt .f64 (wide x)))) cw (rungN single (Vk .f64 (rk .f64 (fsqrt .f64 (wide x)))) (-1074)) :=
  ⟨hlt, fun q hq h => rung_le okS (by decide) hq (by rw [cw_eq]; exact h), fun q hq h => le_rung okS (by decide) hq (by rw [cw_eq]; exact h)⟩
 obtain ⟨g1, g2⟩ := err_R cw_pos hRd n2
 rw [← k1] at g1 g2 n2
 have f1 : fr .f32 (rootP x) * (dn .f32 : Rat) = ((V single (rk .f32 (rootP x)) : Nat) : Rat) := by
  rcases fr_cases (k := .f32) (rootP x) with ⟨_, e⟩ | ⟨e, _⟩
  ·exact e
  ·rw [show sgn FloatKind.f32.format (rootP x) = false from k2] at e; cases e
 have f2 : fr .f64 (fsqrt .f64 (wide x)) * (dn .f64 : Rat) = ((Vk .f64 (rk .f64 (fsqrt .f64 (wide x))) : Nat) : Rat) := by
  rcases fr_cases (k := .f64) (fsqrt .f64 (wide x)) with ⟨_, e⟩ | ⟨e, _⟩
  ·exact e
  ·rw [show sgn FloatKind.f64.format (fsqrt .f64 (wide x)) = false from hsw] at e; cases e
 have h3 : (dn .f64 : Rat) = (dn .f32 : Rat) * (cw : Rat) := by
  have : dn .f64 = dn .f32 * cw := by decide +kernel
  rw [this]
  push_cast
  rfl
 have hbi : ((single.binade : Nat) : Rat) = 8388608 := by
  have : single.binade = 8388608 := by decide
  rw [this]; rfl
 rw [← f1, ← f2, h3, hbi] at g1 g2
 have hc : (0 : Rat) < (cw : Rat) := by
  have := cw_pos
  exact_mod_cast this
 have hd := dn_pos .f32
 have h149 : tp (-149) * (dn .f32 : Rat) = 1 := by
  rw [dn_tp, show -FloatKind.f32.format.leastPlace = 149 by decide, ← tp_add]
  exact tp_zero
 obtain ⟨q1, q2⟩ := near_cut2 hd hc h149 g1 g2
 obtain ⟨r1, r2, r3⟩ := root_cut hlow e0 e1 q1 q2
 refine ⟨⟨r1, r2⟩, k2, n2, ?_, r3⟩
 rcases Nat.lt_or_ge single.binade (rk .f32 (rootP x)) with h | h
 ·exact h
 ·exfalso
  have h4 := V_mono single h;rw [show V single single.binade = 8388608 by decide] at h4
  have h5 : ((V single (rk .f32 (rootP x)) : Nat) : Rat) ≤ 8388608 := by exact_mod_cast h4
  rw [← f1] at h5;have h6 := mul_le_r (Rat.le_of_lt hd) r3;have h7 : tp (-77) * (dn .f32 : Rat) = tp 72 := by
   rw [dn_tp, show -FloatKind.f32.format.leastPlace = 149 by decide, ← tp_add]
   congr 1
  have h8 : tp 24 ≤ tp 72 := tp_mono (by decide)
  have h9 : tp 24 = 16777216 := by unfold tp; rfl
  grind
theorem rootP_zero {x : Nat} (h : rk .f32 x = 0) (hs : sgn single x = false) : rootP x = 0 := by
 have hx : rk .f32 x < inf .f32 := by rw [h]; decide
 obtain ⟨n1, _⟩ := rootP_N hx hs
 have hw := (wide_sv hx)
 have h1 : sv .f64 (wide x) = 0 := by
  rw [hw.2.1];have : sv .f32 x = 0 := by unfold sv; rw [h]; simp [Vk, V_zero]
  rw [this, Int.zero_mul]
 have h2 : rk .f64 (wide x) = 0 := by
  have := sv_abs .f64 (wide x);rw [h1] at this
  rcases Nat.eq_zero_or_pos (rk .f64 (wide x)) with h0 | h0
  ·exact h0
  ·have h3 : 0 < Vk .f64 (rk .f64 (wide x)) := V_pos (f := double) h0
   omega
 have h3 : fsqrt .f64 (wide x) = double.word false 0 := by
  unfold fsqrt Format.sqrt;rw [read_zero h2, show sgn FloatKind.f64.format (wide x) = false by rw [← hs]; exact hw.2.2]
  decide
 rw [h3] at n1
 rw [n1]
 decide
end Vs
namespace Vs
open Go Ieee
theorem root_mag {x : Nat} (hx : rk .f32 x < inf .f32) (hs : sgn single x = false) : rk .f32 (rootP x) ≤ 1635778560 := by
 obtain ⟨r, e, hr, _⟩ := wide_word hx
 rw [hs] at e
 have hr2 : rg double (wide x) < double.infRung := by rw [e, word_rg okD (Nat.le_of_lt hr)]; exact hr
 obtain ⟨m, i, h1, _⟩ := read_fin hr2
 have hsg : sgn double (wide x) = false := by rw [e]; exact word_sgn okD (Nat.le_of_lt hr)
 rw [hsg] at h1
 have hd : ∃ d, Datum.root (double.fractionBits + 2) (.number false m i) = some d := by
  simp only [Datum.root];split
  ·exact ⟨_, rfl⟩
  ·exact ⟨_, rfl⟩
 have hs2 : ∃ t r', fsqrt .f64 (wide x) = double.word t r' ∧ r' ≤ 1090 * double.binade := by
  unfold fsqrt Format.sqrt;rw [show FloatKind.f64.format.read (wide x) = .number false m i from h1]
  obtain ⟨d, hd⟩ : ∃ d, (Datum.root (FloatKind.f64.format.fractionBits + 2) (.number false m i)) = some d := hd;obtain ⟨t, m', e', rfl, h5⟩ := root_crude hd (wide_crude (x := x) h1);obtain ⟨r', g1, g2⟩ := nearest_crude (f := double) (neg := t) (L := 66) h5 (by decide)
  refine ⟨t, r', ?_, g2⟩;rw [hd];show canon .f64 (double.nearest t m' e') = _;rw [g1];exact canon_word (k := .f64) (Nat.le_trans g2 (by decide))
 obtain ⟨t, r', g1, g2⟩ := hs2
 obtain ⟨t2, m2, e2, g3, g4⟩ := read_crude (s := t) (q := 1088) double_ok (by decide) g2
 have e5 : double.leastPlace + ((1088 : Nat) : Int) + 1 + double.fractionBits = 67 := by decide
 rw [e5] at g4
 obtain ⟨r3, h3, h4⟩ := nearest_crude (f := single) (neg := t2) (fun _ => g4) (by decide)
 have h6 : r3 ≤ 1635778560 := Nat.le_trans h4 (by decide)
 have h7 := f2f_root x
 rw [g1] at h7
 unfold f2f at h7
 rw [if_neg (by decide), show FloatKind.f64.decode (double.word t r') = .number t2 m2 e2 from g3] at h7
 have hen : FloatKind.f32.encode (.number t2 m2 e2) = single.word t2 r3 := h3
 simp only [hen] at h7
 have h8 : (FloatKind.f32.decode (single.word t2 r3)).isInfinity = false := read_word okS.hw (Nat.lt_of_le_of_lt h6 (by decide))
 rw [h8] at h7
 simp only [Bool.false_eq_true, if_false, Option.some.injEq] at h7
 have h9 : canon .f32 (single.word t2 r3) = single.word t2 r3 := canon_word (k := .f32) (Nat.le_trans h6 (by decide))
 rw [← h7, h9]
 show rg single _ ≤ _
 rw [word_rg okS (Nat.le_trans h6 (by decide))]
 exact h6
def vB (m : Nat) (v : V3) : Prop := rk .f32 v.x ≤ m ∧ rk .f32 v.y ≤ m ∧ rk .f32 v.z ≤ m
def vG (t : Nat) (v : V3) : Prop := gr .f32 t v.x ∧ gr .f32 t v.y ∧ gr .f32 t v.z
theorem fin_of {x m : Nat} (h : rk .f32 x ≤ m) (hm : m < inf .f32) : rk .f32 x < inf .f32 := Nat.lt_of_le_of_lt h hm
theorem q6 : (1086324736 : Nat) < inf .f32 ∧ 1086324736 < inf .f32 ∧ 1098907648 ≤ inf .f32 ∧ Vk .f32 1086324736 + Vk .f32 1086324736 ≤ Vk .f32 1098907648 := by decide +kernel
theorem less_B {v w : V3} (hv : vB 1086324736 v) (hw : vB 1086324736 w) : vB 1098907648 (lessV v w) :=
 ⟨mg_sub hv.1 hw.1 q6, mg_sub hv.2.1 hw.2.1 q6, mg_sub hv.2.2 hw.2.2 q6⟩
theorem q16 : (1098907648 : Nat) < inf .f32 ∧ 1098907648 < inf .f32 ∧ 1132462080 ≤ inf .f32 ∧ Vk .f32 1098907648 * Vk .f32 1098907648 ≤ Vk .f32 1132462080 * dn .f32 := by decide +kernel
theorem q256 : (1132462080 : Nat) < inf .f32 ∧ 1132462080 < inf .f32 ∧ 1140850688 ≤ inf .f32 ∧ Vk .f32 1132462080 + Vk .f32 1132462080 ≤ Vk .f32 1140850688 := by decide +kernel
theorem mul16 {x y : Nat} (hx : rk .f32 x ≤ 1098907648) (hy : rk .f32 y ≤ 1098907648) : rk .f32 (fmul .f32 x y) ≤ 1132462080 := mg_mul hx hy q16
theorem crs_1 {x y z w : Nat} (hx : rk .f32 x ≤ 1098907648) (hy : rk .f32 y ≤ 1098907648) (hz : rk .f32 z ≤ 1098907648) (hw : rk .f32 w ≤ 1098907648) : rk .f32 (fsub .f32 (fmul .f32 x y) (fmul .f32 z w)) ≤ 1140850688 := mg_sub (mul16 hx hy) (mul16 hz hw) q256
theorem cross_B {p q : V3} (hp : vB 1098907648 p) (hq : vB 1098907648 q) : vB 1140850688 (crossV p q) :=
 ⟨crs_1 hp.2.1 hq.2.2 hp.2.2 hq.2.1, crs_1 hp.2.2 hq.1 hp.1 hq.2.2, crs_1 hp.1 hq.2.1 hp.2.1 hq.1⟩
theorem q512 : (1140850688 : Nat) < inf .f32 ∧ 1140850688 < inf .f32 ∧ 1216348160 ≤ inf .f32 ∧ Vk .f32 1140850688 * Vk .f32 1140850688 ≤ Vk .f32 1216348160 * dn .f32 := by decide +kernel
theorem q18 : (1216348160 : Nat) < inf .f32 ∧ 1216348160 < inf .f32 ∧ 1224736768 ≤ inf .f32 ∧ Vk .f32 1216348160 + Vk .f32 1216348160 ≤ Vk .f32 1224736768 := by decide +kernel
theorem q19 : (1224736768 : Nat) < inf .f32 ∧ 1216348160 < inf .f32 ∧ 1233125376 ≤ inf .f32 ∧ Vk .f32 1224736768 + Vk .f32 1216348160 ≤ Vk .f32 1233125376 := by decide +kernel
theorem sq_B {x : Nat} (hx : rk .f32 x ≤ 1140850688) : rk .f32 (fmul .f32 x x) ≤ 1216348160 := mg_mul hx hx q512
theorem sq_sgn {x : Nat} (hx : rk .f32 x ≤ 1140850688) : sgn single (fmul .f32 x x) = false := by
 obtain ⟨r, e, hr⟩ := fmul_R (k := .f32) (x := x) (y := x) (fin_of hx (by decide)) (fin_of hx (by decide))
 rw [e, Bool.xor_self]
 exact sgn_word (k := .f32) hr.1
theorem add_sgn {x y : Nat} (hx : rk .f32 x < inf .f32) (hy : rk .f32 y < inf .f32) (sx : sgn single x = false) (sy : sgn single y = false) : sgn single (fadd .f32 x y) = false := by
 obtain ⟨r, u, e, hr, hu⟩ := fadd_R (k := .f32) hx hy
 rw [e, hu sx sy]
 exact sgn_word (k := .f32) hr.1
theorem dot_B {p : V3} (hp : vB 1140850688 p) : rk .f32 (dotV p p) ≤ 1233125376 := mg_add (mg_add (sq_B hp.1) (sq_B hp.2.1) q18) (sq_B hp.2.2) q19
theorem dot_sgn {p : V3} (hp : vB 1140850688 p) : sgn single (dotV p p) = false :=
 add_sgn (fin_of (mg_add (sq_B hp.1) (sq_B hp.2.1) q18) (by decide)) (fin_of (sq_B hp.2.2) (by decide)) (add_sgn (fin_of (sq_B hp.1) (by decide)) (fin_of (sq_B hp.2.1) (by decide)) (sq_sgn hp.1) (sq_sgn hp.2.1)) (sq_sgn hp.2.2)
variable {a b c a' b' c' : V3}
theorem long_eq (v : V3) : longV v = rootP (dotV v v) := rfl
end Vs
namespace Vs
open Go Ieee
theorem sq_nn (a : Rat) : 0 ≤ a * a := by
 rcases (Rat.le_total : (0 : Rat) ≤ a ∨ a ≤ 0) with h | h
 ·exact mul_nn h h
 ·have := mul_nn (show 0 ≤ -a by grind) (show 0 ≤ -a by grind)
  grind
theorem sq_le {a b : Rat} (hb : 0 ≤ b) (h : a * a ≤ b * b) : a ≤ b := by
 rcases (Rat.le_total : a ≤ b ∨ b ≤ a) with h1 | h1
 ·exact h1
 ·have ha : 0 ≤ a := Rat.le_trans hb h1
  have h2 := mul_le_r ha h1;have h3 := Rat.mul_le_mul_of_nonneg_left h1 hb
  rcases (Rat.le_total : a - b ≤ 0 ∨ 0 ≤ a - b) with h4 | h4
  ·grind
  ·
   have h5 : (a - b) * (a - b) ≤ 0 := by
    have : (a - b) * (a - b) = a * a - b * b - 2 * (b * (a - b)) := by grind
    have h6 := mul_nn hb h4
    grind
   have h7 := sq_nn (a - b);have h8 : (a - b) * (a - b) = 0 := Rat.le_antisymm h5 h7
   rcases Rat.mul_eq_zero.1 h8 with h9 | h9 <;> grind
end Vs
namespace Vs
open Go Ieee
theorem ep32 : ep .f32 = 1 / 8388608 := by
 unfold ep
 rw [show FloatKind.f32.format.binade = 8388608 by decide]
 rfl
theorem et32 : et .f32 ≤ 1 / 1393796574908163946345982392040522594123776 := by
 have h1 : (1393796574908163946345982392040522594123776 : Nat) ≤ dn .f32 := by decide +kernel
 have h2 : (1393796574908163946345982392040522594123776 : Rat) ≤ (dn .f32 : Rat) := by exact_mod_cast h1
 have h3 := dn_pos .f32
 unfold et
 refine le_of_mul h3 ?_
 generalize (dn .f32 : Rat) = D at *
 have : 1 / D * D = 1 := by grind
 rw [this]
 grind
theorem dot_near {x y z a b c s D t : Rat} (ht0 : 0 ≤ t) (h1 : near (1 / 8388608 * ab (x * x) + t) a (x * x)) (h2 : near (1 / 8388608 * ab (y * y) + t) b (y * y)) (h3 : near (1 / 8388608 * ab (z * z) + t) c (z * z))
  (h4 : near (1 / 8388608 * ab (a + b)) s (a + b)) (h5 : near (1 / 8388608 * ab (s + c)) D (s + c)) (ha : 0 ≤ a) (hb : 0 ≤ b) (hc : 0 ≤ c) (hs : 0 ≤ s) :
  (x * x + y * y + z * z) * (1 - 3 / 8388608) - 4 * t ≤ D ∧ D ≤ (x * x + y * y + z * z) * (1 + 4 / 8388608) + 4 * t := by
 have sx := sq_nn x; have sy := sq_nn y; have sz := sq_nn z
 rw [ab_pos sx] at h1
 rw [ab_pos sy] at h2
 rw [ab_pos sz] at h3
 rw [ab_pos (by grind)] at h4
 rw [ab_pos (by grind)] at h5
 obtain ⟨a1, a2⟩ := h1
 obtain ⟨b1, b2⟩ := h2
 obtain ⟨c1, c2⟩ := h3
 obtain ⟨d1, d2⟩ := h4
 obtain ⟨e1, e2⟩ := h5
 generalize x * x = X at *
 generalize y * y = Y at *
 generalize z * z = Z at *
 constructor <;> grind
def rx (v : V3) : Rat := fr .f32 v.x
def ry (v : V3) : Rat := fr .f32 v.y
def rz (v : V3) : Rat := fr .f32 v.z
theorem fr_nn {x : Nat} (hs : sgn single x = false) : 0 ≤ fr .f32 x := by
 rcases fr_cases (k := .f32) x with ⟨_, e⟩ | ⟨e, _⟩
 ·have h : (0 : Rat) ≤ ((Vk .f32 (rk .f32 x) : Nat) : Rat) := by exact_mod_cast Nat.zero_le _
  rw [← e] at h;refine le_of_mul (dn_pos .f32) ?_;rw [Rat.zero_mul];exact h
 ·rw [show sgn FloatKind.f32.format x = false from hs] at e; cases e
theorem sub_e {x y : Nat} (hx : rk .f32 x ≤ 1086324736) (hy : rk .f32 y ≤ 1086324736) : near (1 / 8388608 * ab (fr .f32 x - fr .f32 y)) (fr .f32 (fsub .f32 x y)) (fr .f32 x - fr .f32 y) := by
 have := sub_E (k := .f32) (fin_of hx (by decide)) (fin_of hy (by decide)) (fin_of (mg_sub hx hy q6) (by decide))
 rw [ep32] at this
 exact this
theorem mul_e {x y : Nat} (hx : rk .f32 x < inf .f32) (hy : rk .f32 y < inf .f32) (hz : rk .f32 (fmul .f32 x y) < inf .f32) : near (1 / 8388608 * ab (fr .f32 x * fr .f32 y) + et .f32) (fr .f32 (fmul .f32 x y)) (fr .f32 x * fr .f32 y) := by
 have := mul_E (k := .f32) hx hy hz
 rw [ep32] at this
 exact this
theorem add_e {x y : Nat} (hx : rk .f32 x < inf .f32) (hy : rk .f32 y < inf .f32) (hz : rk .f32 (fadd .f32 x y) < inf .f32) : near (1 / 8388608 * ab (fr .f32 x + fr .f32 y)) (fr .f32 (fadd .f32 x y)) (fr .f32 x + fr .f32 y) := by
 have := add_E (k := .f32) hx hy hz
 rw [ep32] at this
 exact this
theorem dot_e {p : V3} (hp : vB 1140850688 p) :
  (rx p * rx p + ry p * ry p + rz p * rz p) * (1 - 3 / 8388608) - 4 * et .f32 ≤ fr .f32 (dotV p p) ∧ fr .f32 (dotV p p) ≤ (rx p * rx p + ry p * ry p + rz p * rz p) * (1 + 4 / 8388608) + 4 * et .f32 := by
 have h1 := mg_add (sq_B hp.1) (sq_B hp.2.1) q18
 have f1 := fin_of hp.1 (by decide); have f2 := fin_of hp.2.1 (by decide); have f3 := fin_of hp.2.2 (by decide)
 have g1 := fin_of (sq_B hp.1) (by decide); have g2 := fin_of (sq_B hp.2.1) (by decide); have g3 := fin_of (sq_B hp.2.2) (by decide)
 have s1 := sq_sgn hp.1; have s2 := sq_sgn hp.2.1; have s3 := sq_sgn hp.2.2
 exact dot_near (Rat.le_of_lt (et_pos _)) (mul_e f1 f1 g1) (mul_e f2 f2 g2) (mul_e f3 f3 g3) (add_e g1 g2 (fin_of h1 (by decide))) (add_e (fin_of h1 (by decide)) g3 (fin_of (dot_B hp) (by decide))) (fr_nn s1) (fr_nn s2) (fr_nn s3) (fr_nn (add_sgn g1 g2 s1 s2))
theorem sq_mono {x : Rat} {m : Rat} (h : ab x ≤ m) : x * x ≤ m * m := by
 have h0 := ab_nonneg x
 have : ab x * ab x = x * x := by rw [← ab_mul, ab_pos (sq_nn _)]
 rw [← this]
 exact Rat.le_trans (mul_le_r h0 h) (Rat.mul_le_mul_of_nonneg_left h (Rat.le_trans h0 h))
theorem fr_zero {x : Nat} (h : rk .f32 x = 0) : fr .f32 x = 0 := by
 have := ab_fr (k := .f32) x
 rw [h, show Vk .f32 0 = 0 from V_zero _] at this
 have hd := dn_pos .f32
 have h2 : ab (fr .f32 x) = 0 := mul_cancel hd (by rw [this, Rat.zero_mul]; rfl)
 grind [ab]
variable {a b c : V3}
end Vs
