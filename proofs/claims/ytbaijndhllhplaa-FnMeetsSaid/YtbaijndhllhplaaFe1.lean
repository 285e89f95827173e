/-
  Values of floats as rationals, and how far the operations' results are from the exact ones.
-/
import Derived.Test.YtbaijndhllhplaaMf5
set_option maxHeartbeats 4000000
namespace Vs
open Go Ieee
theorem V_gap (f : Format) (r : Nat) : (V f (r + 1) - V f r) * f.binade ≤ V f r ∨ V f (r + 1) = V f r + 1 := by
 have hbp := binade_pos f
 rcases Nat.lt_or_ge (r + 1) (2 * f.binade) with h1 | h1
 ·right
  rw [V_low h1, V_low (by omega)]
 ·unfold V
  rw [if_neg (show ¬ r + 1 < f.binade by omega)]
  by_cases h2 : r < f.binade
  ·have e : r + 1 = f.binade := by omega
   omega
  ·rw [if_neg h2]
   have hdm := Nat.div_add_mod r f.binade;have hm := Nat.mod_lt r hbp;have hq : 1 ≤ r / f.binade := (Nat.le_div_iff_mul_le hbp).2 (by omega)
   generalize hqe : r / f.binade = q at *;generalize hme : r % f.binade = m at *
   left
   by_cases h3 : m + 1 < f.binade
   ·have e1 : (r + 1) / f.binade = q := by rw [← hdm, Nat.add_assoc, Nat.mul_add_div hbp, Nat.div_eq_of_lt h3, Nat.add_zero]
    have e2 : (r + 1) % f.binade = m + 1 := by rw [← hdm, Nat.add_assoc, Nat.mul_add_mod, Nat.mod_eq_of_lt h3]
    rw [e1, e2];have : (f.binade + (m + 1)) * 2 ^ (q - 1) - (f.binade + m) * 2 ^ (q - 1) = 2 ^ (q - 1) := by rw [show f.binade + (m + 1) = (f.binade + m) + 1 by omega, Nat.add_mul _ 1, Nat.one_mul, Nat.add_sub_cancel_left]
    rw [this, Nat.mul_comm, Nat.add_mul];exact Nat.le_add_right _ _
   ·have e0 : m + 1 = f.binade := by omega
    have e1 : (r + 1) / f.binade = q + 1 := by rw [← hdm, Nat.add_assoc, e0, Nat.mul_add_div hbp, Nat.div_self hbp]
    have e2 : (r + 1) % f.binade = 0 := by rw [← hdm, Nat.add_assoc, e0, Nat.mul_add_mod, Nat.mod_self]
    rw [e1, e2];have e3 : q + 1 - 1 = (q - 1) + 1 := by omega
    have : (f.binade + 0) * 2 ^ (q + 1 - 1) - (f.binade + m) * 2 ^ (q - 1) = 2 ^ (q - 1) := by rw [e3, Nat.pow_succ, Nat.add_zero, ← Nat.mul_assoc, Nat.mul_right_comm, ← Nat.sub_mul, show f.binade * 2 - (f.binade + m) = 1 by omega, Nat.one_mul]
    rw [this, Nat.mul_comm, Nat.add_mul];exact Nat.le_add_right _ _
theorem Rd_err {f : Format} {N D r : Nat} (hD : 0 < D) (h : Rd f N D r) (hr : r < f.infRung) :
  ((V f r * D - N) * f.binade ≤ N ∨ V f r * D - N < D) ∧ ((N - V f r * D) * f.binade ≤ N ∨ N - V f r * D < D) := by
 obtain ⟨_, h2, h3⟩ := h
 have up : N < V f (r + 1) * D := by
  rcases Nat.lt_or_ge N (V f (r + 1) * D) with h | h
  ·exact h
  ·have := h3 (r + 1) (by omega) h; omega
 constructor
 ·match r, h2, hr with
  | 0, _, _ =>
   left
   rw [V_zero, Nat.zero_mul, Nat.zero_sub, Nat.zero_mul];exact Nat.zero_le _
  | s + 1, h2, hr =>
   have lo : V f s * D < N := by
    rcases Nat.lt_or_ge (V f s * D) N with h | h
    ·exact h
    ·have := h2 s (by omega) h; omega
   rcases V_gap f s with hg | hg
   ·left
    have e1 : V f (s + 1) * D - N ≤ (V f (s + 1) - V f s) * D := by rw [Nat.sub_mul]; omega
    calc (V f (s + 1) * D - N) * f.binade ≤ (V f (s + 1) - V f s) * D * f.binade := Nat.mul_le_mul_right _ e1
     _ = (V f (s + 1) - V f s) * f.binade * D := Nat.mul_right_comm _ _ _
     _ ≤ V f s * D := Nat.mul_le_mul_right _ hg
     _ ≤ N := Nat.le_of_lt lo
   ·right
    rw [hg, Nat.add_mul, Nat.one_mul];omega
 ·rcases V_gap f r with hg | hg
  ·left
   rcases Nat.lt_or_ge N (V f r * D) with h | h
   ·rw [Nat.sub_eq_zero_of_le (Nat.le_of_lt h), Nat.zero_mul]; exact Nat.zero_le _
   ·have e1 : N - V f r * D ≤ (V f (r + 1) - V f r) * D := by rw [Nat.sub_mul]; omega
    calc (N - V f r * D) * f.binade ≤ (V f (r + 1) - V f r) * D * f.binade := Nat.mul_le_mul_right _ e1
     _ = (V f (r + 1) - V f r) * f.binade * D := Nat.mul_right_comm _ _ _
     _ ≤ V f r * D := Nat.mul_le_mul_right _ hg
     _ ≤ N := h
  ·right
   rw [hg, Nat.add_mul, Nat.one_mul] at up;omega
theorem sum_S {f : Format} (hf : FOk f) {x y : Nat} (s t : Bool) {m n : Nat} {i j : Int} (h2 : f.leastPlace ≤ i) (h3 : m * 2 ^ (i - f.leastPlace).toNat = V f x)
  (h5 : f.leastPlace ≤ j) (h6 : n * 2 ^ (j - f.leastPlace).toNat = V f y) {S : Int} (hS : S = (if s = true then -(V f x : Int) else V f x) + (if t = true then -(V f y : Int) else V f y)) :
  ∃ r u, ((Datum.number s m i).sum (.number t n j)).map f.write = some (f.word u r) ∧ Rd f S.natAbs 1 r ∧ (0 < S → u = false) ∧ (S < 0 → u = true) := by
 have hU := hf.hU
 simp only [Datum.sum, Option.map_some, Format.write]
 obtain ⟨r, hr, hB⟩ := nearest_R (f := f) (if signed s m (i - min i j).toNat + signed t n (j - min i j).toNat = 0 then s && t else decide (signed s m (i - min i j).toNat + signed t n (j - min i j).toNat < 0)) (signed s m (i - min i j).toNat + signed t n (j - min i j).toNat).natAbs (min i j)
 have e1 : (signed s m (i - min i j).toNat + signed t n (j - min i j).toNat) * ((2 ^ (min i j - f.leastPlace).toNat : Nat) : Int) = S := by
  have p1 := pow_split (show f.leastPlace ≤ min i j by omega) (show min i j ≤ i by omega)
  have p2 := pow_split (show f.leastPlace ≤ min i j by omega) (show min i j ≤ j by omega)
  rw [hS, ← h3, ← h6, p1, p2];generalize 2 ^ (min i j - f.leastPlace).toNat = w;simp only [signed_abs];have q1 : m * 2 ^ (i - min i j).toNat * w = m * (2 ^ (i - min i j).toNat * w) := Nat.mul_assoc _ _ _;have q2 : n * 2 ^ (j - min i j).toNat * w = n * (2 ^ (j - min i j).toNat * w) := Nat.mul_assoc _ _ _;rw [← q1, ← q2];generalize m * 2 ^ (i - min i j).toNat = a;generalize n * 2 ^ (j - min i j).toNat = b
  cases s <;> cases t <;> simp [Int.add_mul, Int.neg_mul]
 have hw : (0 : Int) < ((2 ^ (min i j - f.leastPlace).toNat : Nat) : Int) := Int.natCast_pos.2 (Nat.two_pow_pos _)
 have hr2 := hB f.leastPlace (by omega) (Int.le_refl _)
 generalize hw2 : 2 ^ (min i j - f.leastPlace).toNat = w at *
 generalize signed s m (i - min i j).toNat + signed t n (j - min i j).toNat = Q at *
 have e2 : Q.natAbs * w = S.natAbs := by rw [← e1, Int.natAbs_mul, Int.natAbs_natCast]
 rw [e2] at hr2
 have e3 : (f.leastPlace - f.leastPlace).toNat = 0 := by omega
 refine ⟨r, _, by rw [hr], ⟨by rw [hr2]; exact rungN_le_inf _ _ _, fun q hq h => ?_, fun q hq h => ?_⟩, fun h => ?_, fun h => ?_⟩
 ·rw [hr2]; exact rung_le hf (Int.le_refl _) hq (by rw [e3]; simpa using h)
 ·rw [hr2]; exact le_rung hf (Int.le_refl _) hq (by rw [e3]; simpa using h)
 ·have hQ : 0 < Q := by
   by_cases h1 : 0 < Q
   ·exact h1
   ·have := Int.mul_nonpos_of_nonpos_of_nonneg (Int.not_lt.1 h1) (Int.le_of_lt hw); omega
  rw [if_neg (by omega)]
  exact decide_eq_false (by omega)
 ·have hQ : Q < 0 := by
   by_cases h1 : Q < 0
   ·exact h1
   ·have := Int.mul_nonneg (Int.not_lt.1 h1) (Int.le_of_lt hw); omega
  rw [if_neg (by omega)]
  exact decide_eq_true (by omega)
variable {k : FloatKind} {x y : Nat}
theorem svw {u : Bool} {r : Nat} (h : r ≤ inf k) : sv k (k.format.word u r) = if u = true then -(Vk k r : Int) else Vk k r := by
 unfold sv
 rw [sgn_word h, rk_word h]
theorem svw_S {u : Bool} {r : Nat} {S : Int} (hr : Rd k.format S.natAbs 1 r) (h1 : 0 < S → u = false) (h2 : S < 0 → u = true) : sv k (k.format.word u r) = if S < 0 then -(Vk k r : Int) else Vk k r := by
 rw [svw hr.1]
 by_cases h : S < 0
 ·rw [h2 h, if_pos rfl, if_pos h]
 ·rw [if_neg h]
  by_cases h3 : 0 < S
  ·rw [h1 h3, if_neg (by simp)]
  ·have h0 : S = 0 := by omega
   have : r = 0 := Nat.le_antisymm (hr.2.1 0 (Nat.zero_le _) (by rw [h0]; simp)) (Nat.zero_le _)
   rw [this];simp [Vk, V_zero]
theorem add_S (hx : rk k x < inf k) (hy : rk k y < inf k) : ∃ r, sv k (fadd k x y) = (if sv k x + sv k y < 0 then -(Vk k r : Int) else Vk k r) ∧ rk k (fadd k x y) = r ∧ Rd k.format (sv k x + sv k y).natAbs 1 r := by
 obtain ⟨m, i, h1, h2, h3, _⟩ := read_fin hx
 obtain ⟨n, j, h4, h5, h6, _⟩ := read_fin hy
 obtain ⟨r, u, h, hr, hu1, hu2⟩ := sum_S (okF k) (x := rk k x) (y := rk k y) (sgn k.format x) (sgn k.format y) h2 h3 h5 h6 (S := sv k x + sv k y) rfl
 refine ⟨r, ?_, ?_, hr⟩
 ·rw [fadd, Format.add, h1, h4, h, fin, canon_word hr.1, svw_S hr hu1 hu2]
 ·rw [fadd, Format.add, h1, h4, h, fin, canon_word hr.1, rk_word hr.1]
theorem sub_S (hx : rk k x < inf k) (hy : rk k y < inf k) : ∃ r, sv k (fsub k x y) = (if sv k x - sv k y < 0 then -(Vk k r : Int) else Vk k r) ∧ rk k (fsub k x y) = r ∧ Rd k.format (sv k x - sv k y).natAbs 1 r := by
 obtain ⟨m, i, h1, h2, h3, _⟩ := read_fin hx
 obtain ⟨n, j, h4, h5, h6, _⟩ := read_fin hy
 have e : (if (!sgn k.format y) = true then -(V k.format (rk k y) : Int) else V k.format (rk k y)) = - sv k y := by
  unfold sv
  cases sgn k.format y <;> simp
 obtain ⟨r, u, h, hr, hu1, hu2⟩ := sum_S (okF k) (x := rk k x) (y := rk k y) (sgn k.format x) (!sgn k.format y) h2 h3 h5 h6 (S := sv k x - sv k y) (by rw [e, Int.sub_eq_add_neg]; rfl)
 refine ⟨r, ?_, ?_, hr⟩
 ·rw [fsub, Format.sub, h1, h4, Datum.opposite, h, fin, canon_word hr.1, svw_S hr hu1 hu2]
 ·rw [fsub, Format.sub, h1, h4, Datum.opposite, h, fin, canon_word hr.1, rk_word hr.1]
def ab (q : Rat) : Rat := if 0 ≤ q then q else -q
def fr (k : FloatKind) (x : Nat) : Rat := (sv k x : Rat) / (dn k : Rat)
def ep (k : FloatKind) : Rat := 1 / (k.format.binade : Rat)
def et (k : FloatKind) : Rat := 1 / (dn k : Rat)
def near (e a b : Rat) : Prop := a - b ≤ e ∧ b - a ≤ e
theorem dn_pos (k : FloatKind) : (0 : Rat) < (dn k : Rat) := Rat.natCast_pos.2 (Nat.two_pow_pos _)
theorem bi_pos (k : FloatKind) : (0 : Rat) < (k.format.binade : Rat) := Rat.natCast_pos.2 (binade_pos _)
theorem ab_nonneg (q : Rat) : 0 ≤ ab q := by grind [ab]
theorem ab_le {q m : Rat} (h1 : q ≤ m) (h2 : -m ≤ q) : ab q ≤ m := by grind [ab]
theorem le_ab (q : Rat) : q ≤ ab q := by grind [ab]
theorem neg_ab (q : Rat) : -(ab q) ≤ q := by grind [ab]
theorem mul_le_r {a b c : Rat} (hc : 0 ≤ c) (h : a ≤ b) : a * c ≤ b * c := Rat.mul_le_mul_of_nonneg_right h hc
theorem mul_nn {a b : Rat} (ha : 0 ≤ a) (hb : 0 ≤ b) : 0 ≤ a * b := Rat.mul_nonneg ha hb
theorem et_pos (k : FloatKind) : 0 < et k := by
 have := Rat.inv_pos.2 (dn_pos k)
 unfold et
 grind
theorem ab_mul (p q : Rat) : ab (p * q) = ab p * ab q := by
 unfold ab
 by_cases hp : 0 ≤ p <;> by_cases hq : 0 ≤ q
 ·rw [if_pos hp, if_pos hq, if_pos (mul_nn hp hq)]
 ·rw [if_pos hp, if_neg hq]
  have := mul_nn hp (show 0 ≤ -q by grind)
  split <;> grind
 ·rw [if_neg hp, if_pos hq]
  have := mul_nn (show 0 ≤ -p by grind) hq
  split <;> grind
 ·rw [if_neg hp, if_neg hq]
  have := mul_nn (show 0 ≤ -p by grind) (show 0 ≤ -q by grind)
  rw [if_pos (by grind)]
  grind
theorem ab_pos {q : Rat} (h : 0 ≤ q) : ab q = q := if_pos h
theorem ab_int (s : Int) : ab (s : Rat) = ((s.natAbs : Nat) : Rat) := by
 unfold ab
 split
 ·rename_i h
  have h1 : 0 ≤ s := by exact_mod_cast h
  have h2 : ((s.natAbs : Nat) : Int) = s := by omega
  have : (((s.natAbs : Nat) : Int) : Rat) = (s : Rat) := by rw [h2]
  rw [← this]
  push_cast
  rfl
 ·rename_i h
  have h1 : ¬ 0 ≤ s := fun h2 => h (by exact_mod_cast h2)
  have h2 : ((s.natAbs : Nat) : Int) = -s := by omega
  have : (((s.natAbs : Nat) : Int) : Rat) = ((-s : Int) : Rat) := by rw [h2]
  rw [Rat.intCast_neg] at this;rw [← this]
  push_cast
  rfl
theorem fr_mul (k : FloatKind) (x : Nat) : fr k x * (dn k : Rat) = (sv k x : Rat) := by
 have := dn_pos k
 unfold fr
 grind
theorem le_of_mul {q e p : Rat} (hp : 0 < p) (h : q * p ≤ e * p) : q ≤ e := by
 have h4 := mul_le_r (Rat.le_of_lt (Rat.inv_pos.2 hp)) h
 rw [Rat.mul_assoc, Rat.mul_assoc, Rat.mul_inv_cancel _ (Rat.ne_of_gt hp), Rat.mul_one, Rat.mul_one] at h4
 exact h4
theorem near_int {z S : Int} {e a b : Rat} (ha : a * (dn k : Rat) = (z : Rat)) (hb : b * (dn k : Rat) = (S : Rat)) {m : Nat} (h1 : (z - S) * (k.format.binade : Int) ≤ m) (h2 : (S - z) * (k.format.binade : Int) ≤ m) (he : (m : Rat) ≤ e * (dn k : Rat) * (k.format.binade : Rat)) : near e a b := by
 have hd := dn_pos k
 have hB := bi_pos k
 have c1 : ((z : Rat) - (S : Rat)) * (k.format.binade : Rat) ≤ (m : Rat) := by exact_mod_cast h1
 have c2 : ((S : Rat) - (z : Rat)) * (k.format.binade : Rat) ≤ (m : Rat) := by exact_mod_cast h2
 rw [← ha, ← hb] at c1 c2
 clear h1 h2 ha hb
 generalize (dn k : Rat) = D at *
 generalize (k.format.binade : Rat) = B at *
 generalize (m : Rat) = M at *
 have hp := Rat.mul_pos hd hB
 exact ⟨le_of_mul hp (by grind), le_of_mul hp (by grind)⟩
theorem err_S {f : Format} {S : Int} {r : Nat} (hr : Rd f S.natAbs 1 r) (h : r < f.infRung) : ((if S < 0 then -(V f r : Int) else V f r) - S) * (f.binade : Int) ≤ S.natAbs ∧ (S - (if S < 0 then -(V f r : Int) else V f r)) * (f.binade : Int) ≤ S.natAbs := by
 obtain ⟨h1, h2⟩ := Rd_err (by decide) hr h
 rw [Nat.mul_one] at h1 h2
 have g1 : (V f r - S.natAbs) * f.binade ≤ S.natAbs := by
  rcases h1 with h1 | h1
  ·exact h1
  ·rw [show V f r - S.natAbs = 0 by omega, Nat.zero_mul]; exact Nat.zero_le _
 have g2 : (S.natAbs - V f r) * f.binade ≤ S.natAbs := by
  rcases h2 with h2 | h2
  ·exact h2
  ·rw [show S.natAbs - V f r = 0 by omega, Nat.zero_mul]; exact Nat.zero_le _
 generalize V f r = v at *
 generalize f.binade = B at *
 have key : ∀ a b : Nat, (a - b) * B ≤ S.natAbs → ((a : Int) - b) * (B : Int) ≤ (S.natAbs : Int) := fun a b h => by
  rcases Nat.le_total b a with h3 | h3
  ·have : ((a - b : Nat) : Int) = (a : Int) - b := by omega
   rw [← this]
   exact_mod_cast h
  ·have h4 : ((a : Int) - b) ≤ 0 := by omega
   have := Int.mul_nonpos_of_nonpos_of_nonneg h4 (Int.natCast_nonneg B);omega
 have k1 := key _ _ g1
 have k2 := key _ _ g2
 split
 ·have e1 : -(v : Int) - S = (S.natAbs : Int) - v := by omega
  have e2 : S - -(v : Int) = (v : Int) - S.natAbs := by omega
  rw [e1, e2];exact ⟨k2, k1⟩
 ·have e1 : (v : Int) - S = (v : Int) - S.natAbs := by omega
  have e2 : S - (v : Int) = (S.natAbs : Int) - v := by omega
  rw [e1, e2];exact ⟨k1, k2⟩
theorem ep_bi (k : FloatKind) (q : Rat) : ep k * q * (k.format.binade : Rat) = q := by
 have := bi_pos k
 unfold ep
 grind
theorem add_E (hx : rk k x < inf k) (hy : rk k y < inf k) (hz : rk k (fadd k x y) < inf k) : near (ep k * ab (fr k x + fr k y)) (fr k (fadd k x y)) (fr k x + fr k y) := by
 obtain ⟨r, h1, h2, h3⟩ := add_S hx hy
 rw [h2] at hz
 obtain ⟨e1, e2⟩ := err_S h3 hz
 have hS : (fr k x + fr k y) * (dn k : Rat) = ((sv k x + sv k y : Int) : Rat) := by rw [Rat.add_mul, fr_mul, fr_mul, Rat.intCast_add]
 refine near_int (fr_mul k _) hS (m := (sv k x + sv k y).natAbs) (by rw [h1]; exact e1) (by rw [h1]; exact e2) ?_
 have : (((sv k x + sv k y).natAbs : Nat) : Rat) = ab (fr k x + fr k y) * (dn k : Rat) := by rw [← ab_int, ← hS, ab_mul, ab_pos (Rat.le_of_lt (dn_pos k))]
 rw [this, Rat.mul_assoc (ep k), ep_bi]
 exact Rat.le_refl
theorem sub_E (hx : rk k x < inf k) (hy : rk k y < inf k) (hz : rk k (fsub k x y) < inf k) : near (ep k * ab (fr k x - fr k y)) (fr k (fsub k x y)) (fr k x - fr k y) := by
 obtain ⟨r, h1, h2, h3⟩ := sub_S hx hy
 rw [h2] at hz
 obtain ⟨e1, e2⟩ := err_S h3 hz
 have hS : (fr k x - fr k y) * (dn k : Rat) = ((sv k x - sv k y : Int) : Rat) := by
  rw [Rat.intCast_sub, ← fr_mul, ← fr_mul]
  grind
 refine near_int (fr_mul k _) hS (m := (sv k x - sv k y).natAbs) (by rw [h1]; exact e1) (by rw [h1]; exact e2) ?_
 have : (((sv k x - sv k y).natAbs : Nat) : Rat) = ab (fr k x - fr k y) * (dn k : Rat) := by rw [← ab_int, ← hS, ab_mul, ab_pos (Rat.le_of_lt (dn_pos k))]
 rw [this, Rat.mul_assoc (ep k), ep_bi]
 exact Rat.le_refl
theorem err_R {f : Format} {N D r : Nat} (hD : 0 < D) (hr : Rd f N D r) (h : r < f.infRung) : (((V f r : Nat) : Rat) * (D : Rat) - (N : Rat)) * (f.binade : Rat) ≤ (N : Rat) + (D : Rat) * (f.binade : Rat) ∧ ((N : Rat) - ((V f r : Nat) : Rat) * (D : Rat)) * (f.binade : Rat) ≤ (N : Rat) + (D : Rat) * (f.binade : Rat) := by
 obtain ⟨h1, h2⟩ := Rd_err hD hr h
 have hB := binade_pos f
 generalize f.binade = B at *
 have key : ∀ a b : Nat, ((a - b) * B ≤ N ∨ a - b < D) → ((a : Rat) - (b : Rat)) * (B : Rat) ≤ (N : Rat) + (D : Rat) * (B : Rat) := fun a b h => by
  have h3 : (a - b) * B ≤ N + D * B := by
   rcases h with h | h
   ·omega
   ·exact Nat.le_trans (Nat.mul_le_mul_right _ (Nat.le_of_lt h)) (Nat.le_add_left _ _)
  have h4 : ((a : Int) - b) * (B : Int) ≤ (N : Int) + (D : Int) * (B : Int) := by
   rcases Nat.le_total b a with h5 | h5
   ·have : ((a - b : Nat) : Int) = (a : Int) - b := by omega
    rw [← this]
    exact_mod_cast h3
   ·have h6 : ((a : Int) - b) ≤ 0 := by omega
    have h7 := Int.mul_nonpos_of_nonpos_of_nonneg h6 (Int.natCast_nonneg B);have h8 : (0 : Int) ≤ (N : Int) + (D : Int) * (B : Int) := by have := Int.mul_nonneg (Int.natCast_nonneg D) (Int.natCast_nonneg B);omega
    omega
  have h9 := Rat.intCast_le_intCast.2 h4
  push_cast at h9
  exact h9
 have k1 := key _ _ h1
 have k2 := key _ _ h2
 rw [Rat.natCast_mul] at k1 k2
 exact ⟨k1, k2⟩
theorem mul_cancel {a b d : Rat} (hd : 0 < d) (h : a * d = b * d) : a = b := Rat.le_antisymm (le_of_mul hd (by rw [h]; exact Rat.le_refl)) (le_of_mul hd (by rw [h]; exact Rat.le_refl))
theorem sv_ab (x : Nat) : (sv k x).natAbs = Vk k (rk k x) := sv_abs k x
theorem ab_fr (x : Nat) : ab (fr k x) * (dn k : Rat) = ((Vk k (rk k x) : Nat) : Rat) := by
 have := ab_mul (fr k x) (dn k : Rat)
 rw [fr_mul, ab_int, sv_ab, ab_pos (Rat.le_of_lt (dn_pos k))] at this
 exact this.symm
theorem fr_cases (x : Nat) : (sgn k.format x = false ∧ fr k x * (dn k : Rat) = ((Vk k (rk k x) : Nat) : Rat)) ∨ (sgn k.format x = true ∧ fr k x * (dn k : Rat) = -((Vk k (rk k x) : Nat) : Rat)) := by
 rw [fr_mul]
 unfold sv
 cases sgn k.format x
 ·left
  rw [if_neg (by simp)]
  exact ⟨rfl, by push_cast; rfl⟩
 ·right
  rw [if_pos rfl];refine ⟨rfl, ?_⟩;rw [Rat.intCast_neg]
  push_cast
  rfl
theorem fr_word {u : Bool} {r : Nat} (h : r ≤ inf k) : fr k (k.format.word u r) * (dn k : Rat) = if u = true then -((Vk k r : Nat) : Rat) else ((Vk k r : Nat) : Rat) := by
 rw [fr_mul, svw h]
 cases u
 ·rw [if_neg (by simp), if_neg (by simp)]
  push_cast; rfl
 ·rw [if_pos rfl, if_pos rfl, Rat.intCast_neg]
  push_cast; rfl
theorem near_neg {e a b : Rat} (h : near e a b) : near e (-a) (-b) := by
 unfold near at *
 grind
theorem mul_E (hx : rk k x < inf k) (hy : rk k y < inf k) (hz : rk k (fmul k x y) < inf k) : near (ep k * ab (fr k x * fr k y) + et k) (fr k (fmul k x y)) (fr k x * fr k y) := by
 obtain ⟨r, h1, h2⟩ := fmul_R hx hy
 rw [h1, rk_word h2.1] at hz
 obtain ⟨e1, e2⟩ := err_R (Nat.two_pow_pos _) h2 hz
 have hw := fr_word (u := (sgn k.format x ^^ sgn k.format y)) h2.1
 have hD := dn_pos k
 have hB := bi_pos k
 rw [← h1] at hw
 have a1 := ab_fr (k := k) x
 have a2 := ab_fr (k := k) y
 rw [Rat.natCast_mul, ← a1, ← a2] at e1 e2
 have hep : ep k * (k.format.binade : Rat) = 1 := by have := ep_bi k 1; rwa [Rat.mul_one] at this
 have het : et k * (dn k : Rat) = 1 := by unfold et; grind
 rw [ab_mul]
 have n1 := ab_nonneg (fr k x)
 have n2 := ab_nonneg (fr k y)
 have hs : ∃ s : Rat, s * s = 1 ∧ fr k (fmul k x y) * (dn k : Rat) = s * ((Vk k r : Nat) : Rat) ∧ fr k x * fr k y = s * (ab (fr k x) * ab (fr k y)) := by
  have b1 : ∀ z, (sgn k.format z = false → fr k z = ab (fr k z)) ∧ (sgn k.format z = true → fr k z = -ab (fr k z)) := fun z => by
   have hz := ab_fr (k := k) z
   rcases fr_cases (k := k) z with ⟨c1, c2⟩ | ⟨c1, c2⟩
   ·exact ⟨fun _ => (by rw [← hz] at c2; exact mul_cancel hD c2), fun h => (by rw [c1] at h; cases h)⟩
   ·exact ⟨fun h => (by rw [c1] at h; cases h), fun _ => (by rw [← hz, ← Rat.neg_mul] at c2; exact mul_cancel hD c2)⟩
  have bx := b1 x;have by' := b1 y
  generalize ab (fr k x) = p at *;generalize ab (fr k y) = q at *
  cases hx' : sgn k.format x <;> cases hy' : sgn k.format y <;> rw [hx', hy'] at hw
  ·exact ⟨1, by grind, by rw [hw]; simp, by rw [bx.1 hx', by'.1 hy']; grind⟩
  ·exact ⟨-1, by grind, by rw [hw]; simp; grind, by rw [bx.1 hx', by'.2 hy']; grind⟩
  ·exact ⟨-1, by grind, by rw [hw]; simp; grind, by rw [bx.2 hx', by'.1 hy']; grind⟩
  ·exact ⟨1, by grind, by rw [hw]; simp, by rw [bx.2 hx', by'.2 hy']; grind⟩
 obtain ⟨s, s1, s2, s3⟩ := hs
 rw [s3]
 generalize fr k (fmul k x y) = z at *
 generalize ab (fr k x) = p at *
 generalize ab (fr k y) = q at *
 generalize ((Vk k r : Nat) : Rat) = v at *
 generalize (dn k : Rat) = D at *
 generalize (k.format.binade : Rat) = B at *
 generalize ep k = e at *
 generalize et k = t at *
 clear h1 h2 hz hx hy a1 a2 s3 hw
 have key : near (e * (p * q) + t) (s * z) (p * q) := by
  have hv : v = s * z * D := by grind
  rw [hv] at e1 e2;clear hv s2 s1;generalize s * z = Z at *;have hp := Rat.mul_pos (Rat.mul_pos hD hD) hB;have h1 : e * (p * q) * (D * D * B) = p * q * D * D := by grind
  have h2 : t * (D * D * B) = D * B := by grind
  exact ⟨le_of_mul hp (by grind), le_of_mul hp (by grind)⟩
 rcases (show s = 1 ∨ s = -1 by
  have : (s - 1) * (s + 1) = 0 := by grind
  rcases Rat.mul_eq_zero.1 this with h | h
  ·left; grind
  ·right; grind) with h | h
 ·rw [h, Rat.one_mul] at key ⊢
  exact key
 ·rw [h] at key ⊢
  have := near_neg key;unfold near at *
  grind
end Vs
