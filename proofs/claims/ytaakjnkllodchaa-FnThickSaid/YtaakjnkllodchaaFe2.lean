/-
  Floats that are scaled by a power of two: what the operations give is scaled, where nothing is too small.
-/
import Derived.Test.YtaakjnkllodchaaFe1
import Derived.Test.YtaakjnkllodchaaMf4
set_option maxHeartbeats 4000000
namespace Vs
open Go Ieee
theorem rung_norm {f : Format} {N : Nat} {B : Int} (h0 : N ≠ 0) (hn : f.leastPlace ≤ B + N.log2 - f.fractionBits) :
  rungN f N B = min ((B + N.log2 - f.fractionBits - f.leastPlace).toNat * f.binade + rnd N (B + N.log2 - f.fractionBits - B).toNat) f.infRung := by
 unfold rungN
 rw [if_neg h0]
 simp only
 rw [Int.max_eq_left hn]
theorem rung_shift {f : Format} {N c : Nat} {B : Int} (h0 : N ≠ 0) (hn : f.leastPlace ≤ B + N.log2 - f.fractionBits) (hB : B ≤ f.leastPlace) (hf : rungN f (N * 2 ^ c) B < f.infRung) :
  rungN f (N * 2 ^ c) B = rungN f N B + c * f.binade ∧ f.binade ≤ rungN f N B := by
 have h0' : N * 2 ^ c ≠ 0 := Nat.mul_ne_zero h0 (Nat.pos_iff_ne_zero.1 (Nat.two_pow_pos _))
 have hl := log2_mul_pow h0 c
 have e1 := rung_norm (f := f) (N := N * 2 ^ c) (B := B) h0' (by rw [hl]; omega)
 have e2 := rung_norm (f := f) (N := N) (B := B) h0 hn
 rw [hl] at e1
 have a1 : (B + ((N.log2 + c : Nat) : Int) - f.fractionBits - B).toNat = (B + N.log2 - f.fractionBits - B).toNat + c := by omega
 have a2 : (B + ((N.log2 + c : Nat) : Int) - f.fractionBits - f.leastPlace).toNat = (B + N.log2 - f.fractionBits - f.leastPlace).toNat + c := by omega
 rw [a1, a2, rnd_mul, Nat.add_mul] at e1
 have hk : f.binade ≤ rnd N (B + N.log2 - f.fractionBits - B).toNat := by
  have hb : f.binade = 2 ^ f.fractionBits := rfl;have hexp : N.log2 = f.fractionBits + (B + N.log2 - f.fractionBits - B).toNat := by omega
  refine Nat.le_trans ?_ (le_rnd _ _);rw [Nat.le_div_iff_mul_le (Nat.two_pow_pos _), hb, ← Nat.pow_add, ← hexp];exact Nat.log2_self_le h0
 have hi := infRung_ge f
 generalize (B + N.log2 - f.fractionBits - f.leastPlace).toNat * f.binade = p at *
 generalize rnd N (B + N.log2 - f.fractionBits - B).toNat = q at *
 generalize c * f.binade = s at *
 omega
theorem V_shift {f : Format} {r c : Nat} (h : f.binade ≤ r) : V f (r + c * f.binade) = V f r * 2 ^ c := by
 have hbp := binade_pos f
 unfold V
 rw [if_neg (by have := Nat.le_add_right r (c * f.binade); omega), if_neg (by omega), Nat.add_mul_mod_self_right, Nat.add_mul_div_right _ _ hbp]
 have : 1 ≤ r / f.binade := (Nat.le_div_iff_mul_le hbp).2 (by omega)
 rw [Nat.mul_assoc, ← Nat.pow_add]
 congr 2
 omega
theorem V_inj {f : Format} {r s : Nat} (h : V f r = V f s) : r = s := Nat.le_antisymm (V_le (Nat.le_of_eq h)) (V_le (Nat.le_of_eq h.symm))
theorem log2_ge {N e : Nat} (h : 2 ^ e ≤ N) : e ≤ N.log2 := (Nat.le_log2 (by have := Nat.two_pow_pos e; omega)).2 h
theorem rung_scale {f : Format} {N c : Nat} {B : Int} (hB : B ≤ f.leastPlace) (hn : N = 0 ∨ 2 ^ (f.fractionBits + (f.leastPlace - B).toNat) ≤ N) (hf : rungN f (N * 2 ^ c) B < f.infRung) :
  V f (rungN f (N * 2 ^ c) B) = V f (rungN f N B) * 2 ^ c := by
 rcases hn with h0 | hn
 ·subst h0
  rw [Nat.zero_mul];have : rungN f 0 B = 0 := by unfold rungN; rw [if_pos rfl]
  rw [this, V_zero, Nat.zero_mul]
 ·have := log2_ge hn
  obtain ⟨h1, h2⟩ := rung_shift (f := f) (N := N) (c := c) (B := B) (by have := Nat.two_pow_pos (f.fractionBits + (f.leastPlace - B).toNat); omega) (by omega) hB hf
  rw [h1, V_shift h2]
variable {k : FloatKind} {x y : Nat}
theorem sum_N {f : Format} (hf : FOk f) {x y : Nat} (s t : Bool) {m n : Nat} {i j : Int} (h2 : f.leastPlace ≤ i) (h3 : m * 2 ^ (i - f.leastPlace).toNat = V f x)
  (h5 : f.leastPlace ≤ j) (h6 : n * 2 ^ (j - f.leastPlace).toNat = V f y) {S : Int} (hS : S = (if s = true then -(V f x : Int) else V f x) + (if t = true then -(V f y : Int) else V f y)) :
  ∃ u, ((Datum.number s m i).sum (.number t n j)).map f.write = some (f.word u (rungN f S.natAbs f.leastPlace)) := by
 have hU := hf.hU
 simp only [Datum.sum, Option.map_some, Format.write]
 obtain ⟨r, hr, hB⟩ := nearest_R (f := f) (if signed s m (i - min i j).toNat + signed t n (j - min i j).toNat = 0 then s && t else decide (signed s m (i - min i j).toNat + signed t n (j - min i j).toNat < 0)) (signed s m (i - min i j).toNat + signed t n (j - min i j).toNat).natAbs (min i j)
 have e1 : (signed s m (i - min i j).toNat + signed t n (j - min i j).toNat) * ((2 ^ (min i j - f.leastPlace).toNat : Nat) : Int) = S := by
  have p1 := pow_split (show f.leastPlace ≤ min i j by omega) (show min i j ≤ i by omega)
  have p2 := pow_split (show f.leastPlace ≤ min i j by omega) (show min i j ≤ j by omega)
  rw [hS, ← h3, ← h6, p1, p2];generalize 2 ^ (min i j - f.leastPlace).toNat = w;simp only [signed_abs];have q1 : m * 2 ^ (i - min i j).toNat * w = m * (2 ^ (i - min i j).toNat * w) := Nat.mul_assoc _ _ _;have q2 : n * 2 ^ (j - min i j).toNat * w = n * (2 ^ (j - min i j).toNat * w) := Nat.mul_assoc _ _ _;rw [← q1, ← q2];generalize m * 2 ^ (i - min i j).toNat = a;generalize n * 2 ^ (j - min i j).toNat = b
  cases s <;> cases t <;> simp [Int.add_mul, Int.neg_mul]
 have hr2 := hB f.leastPlace (by omega) (Int.le_refl _)
 generalize hw2 : 2 ^ (min i j - f.leastPlace).toNat = w at *
 generalize signed s m (i - min i j).toNat + signed t n (j - min i j).toNat = Q at *
 have e2 : Q.natAbs * w = S.natAbs := by rw [← e1, Int.natAbs_mul, Int.natAbs_natCast]
 rw [e2] at hr2
 exact ⟨_, by rw [hr, hr2]⟩
theorem rk_add (hx : rk k x < inf k) (hy : rk k y < inf k) : rk k (fadd k x y) = rungN k.format (sv k x + sv k y).natAbs k.format.leastPlace := by
 obtain ⟨m, i, h1, h2, h3, _⟩ := read_fin hx
 obtain ⟨n, j, h4, h5, h6, _⟩ := read_fin hy
 obtain ⟨u, h⟩ := sum_N (okF k) (x := rk k x) (y := rk k y) (sgn k.format x) (sgn k.format y) h2 h3 h5 h6 (S := sv k x + sv k y) rfl
 have hi := rungN_le_inf k.format (sv k x + sv k y).natAbs k.format.leastPlace
 rw [fadd, Format.add, h1, h4, h, fin, canon_word hi, rk_word hi]
theorem rk_sub (hx : rk k x < inf k) (hy : rk k y < inf k) : rk k (fsub k x y) = rungN k.format (sv k x - sv k y).natAbs k.format.leastPlace := by
 obtain ⟨m, i, h1, h2, h3, _⟩ := read_fin hx
 obtain ⟨n, j, h4, h5, h6, _⟩ := read_fin hy
 have e : (if (!sgn k.format y) = true then -(V k.format (rk k y) : Int) else V k.format (rk k y)) = - sv k y := by
  unfold sv
  cases sgn k.format y <;> simp
 obtain ⟨u, h⟩ := sum_N (okF k) (x := rk k x) (y := rk k y) (sgn k.format x) (!sgn k.format y) h2 h3 h5 h6 (S := sv k x - sv k y) (by rw [e, Int.sub_eq_add_neg]; rfl)
 have hi := rungN_le_inf k.format (sv k x - sv k y).natAbs k.format.leastPlace
 rw [fsub, Format.sub, h1, h4, Datum.opposite, h, fin, canon_word hi, rk_word hi]
theorem rk_mul (hx : rk k x < inf k) (hy : rk k y < inf k) : fmul k x y = k.format.word (sgn k.format x ^^ sgn k.format y) (rungN k.format (Vk k (rk k x) * Vk k (rk k y)) (2 * k.format.leastPlace)) := by
 obtain ⟨m, i, h1, h2, h3, _⟩ := read_fin hx
 obtain ⟨n, j, h4, h5, h6, _⟩ := read_fin hy
 have hU := (okF k).hU
 obtain ⟨r, hr, hB⟩ := nearest_R (f := k.format) (sgn k.format x ^^ sgn k.format y) (m * n) (i + j)
 have hr2 := hB (2 * k.format.leastPlace) (by omega) (by omega)
 have e1 : m * n * 2 ^ (i + j - 2 * k.format.leastPlace).toNat = Vk k (rk k x) * Vk k (rk k y) := by
  rw [show Vk k (rk k x) = _ from h3.symm, show Vk k (rk k y) = _ from h6.symm, show (i + j - 2 * k.format.leastPlace).toNat = (i - k.format.leastPlace).toNat + (j - k.format.leastPlace).toNat by omega, Nat.pow_add]
  generalize 2 ^ (i - k.format.leastPlace).toNat = a;generalize 2 ^ (j - k.format.leastPlace).toNat = b;rw [Nat.mul_assoc, Nat.mul_assoc]
  congr 1
  rw [← Nat.mul_assoc, Nat.mul_comm n a, Nat.mul_assoc]
 rw [e1] at hr2
 have hi := rungN_le_inf k.format (Vk k (rk k x) * Vk k (rk k y)) (2 * k.format.leastPlace)
 have : k.format.mul x y = some (k.format.word (sgn k.format x ^^ sgn k.format y) r) := by simp [Format.mul, h1, h4, Datum.product, Format.write, hr]
 rw [fmul, this, fin, hr2, canon_word hi]
def Sc (k : FloatKind) (c : Nat) (x y : Nat) : Prop := rk k x < inf k ∧ rk k y < inf k ∧ sv k y = sv k x * (2 : Int) ^ c
def nrm (k : FloatKind) (S : Int) : Prop := S = 0 ∨ k.format.binade ≤ S.natAbs
theorem nat_scale {S : Int} {c : Nat} : (S * (2 : Int) ^ c).natAbs = S.natAbs * 2 ^ c := by
 rw [Int.natAbs_mul, Int.natAbs_pow]
 rfl
theorem sign_scale {S : Int} {c r r' : Nat} (h : V k.format r' = V k.format r * 2 ^ c) : (if S * (2 : Int) ^ c < 0 then -(Vk k r' : Int) else Vk k r') = (if S < 0 then -(Vk k r : Int) else Vk k r) * (2 : Int) ^ c := by
 have hp : (0 : Int) < (2 : Int) ^ c := Int.pow_pos (by decide)
 have e : ((Vk k r' : Nat) : Int) = (Vk k r : Int) * (2 : Int) ^ c := by
  rw [show Vk k r' = Vk k r * 2 ^ c from h]
  push_cast
  rfl
 by_cases hs : S < 0
 ·have : S * (2 : Int) ^ c < 0 := Int.mul_neg_of_neg_of_pos hs hp
  rw [if_pos this, if_pos hs, e, Int.neg_mul]
 ·have : ¬ S * (2 : Int) ^ c < 0 := Int.not_lt.2 (Int.mul_nonneg (Int.not_lt.1 hs) (Int.le_of_lt hp))
  rw [if_neg this, if_neg hs, e]
theorem nrm_N {S : Int} (h : nrm k S) : S.natAbs = 0 ∨ 2 ^ (k.format.fractionBits + (k.format.leastPlace - k.format.leastPlace).toNat) ≤ S.natAbs := by
 rcases h with h | h
 ·left; omega
 ·right
  rw [show (k.format.leastPlace - k.format.leastPlace).toNat = 0 by omega]
  exact h
variable {c : Nat} {x' y' : Nat}
theorem Sc.add (hx : Sc k c x x') (hy : Sc k c y y') (hn : nrm k (sv k x + sv k y)) (hz : rk k (fadd k x y) < inf k) (hz' : rk k (fadd k x' y') < inf k) : Sc k c (fadd k x y) (fadd k x' y') := by
 refine ⟨hz, hz', ?_⟩
 obtain ⟨r, h1, h2, _⟩ := add_S hx.1 hy.1
 obtain ⟨r', h1', h2', _⟩ := add_S hx.2.1 hy.2.1
 rw [rk_add hx.1 hy.1] at h2
 rw [rk_add hx.2.1 hy.2.1] at h2' hz'
 have e : sv k x' + sv k y' = (sv k x + sv k y) * (2 : Int) ^ c := by rw [hx.2.2, hy.2.2, Int.add_mul]
 rw [e, nat_scale] at h2' hz'
 rw [e] at h1'
 rw [h1, h1']
 refine sign_scale ?_
 rw [← h2, ← h2']
 exact rung_scale (Int.le_refl _) (nrm_N hn) hz'
theorem Sc.sub (hx : Sc k c x x') (hy : Sc k c y y') (hn : nrm k (sv k x - sv k y)) (hz : rk k (fsub k x y) < inf k) (hz' : rk k (fsub k x' y') < inf k) : Sc k c (fsub k x y) (fsub k x' y') := by
 refine ⟨hz, hz', ?_⟩
 obtain ⟨r, h1, h2, _⟩ := sub_S hx.1 hy.1
 obtain ⟨r', h1', h2', _⟩ := sub_S hx.2.1 hy.2.1
 rw [rk_sub hx.1 hy.1] at h2
 rw [rk_sub hx.2.1 hy.2.1] at h2' hz'
 have e : sv k x' - sv k y' = (sv k x - sv k y) * (2 : Int) ^ c := by rw [hx.2.2, hy.2.2, Int.sub_mul]
 rw [e, nat_scale] at h2' hz'
 rw [e] at h1'
 rw [h1, h1']
 refine sign_scale ?_
 rw [← h2, ← h2']
 exact rung_scale (Int.le_refl _) (nrm_N hn) hz'
theorem mul_S (hx : rk k x < inf k) (hy : rk k y < inf k) : sv k (fmul k x y) = (if sv k x * sv k y < 0 then -(Vk k (rk k (fmul k x y)) : Int) else Vk k (rk k (fmul k x y))) ∧ rk k (fmul k x y) = rungN k.format (sv k x * sv k y).natAbs (2 * k.format.leastPlace) := by
 have h := rk_mul hx hy
 have hi := rungN_le_inf k.format (Vk k (rk k x) * Vk k (rk k y)) (2 * k.format.leastPlace)
 have ha : (sv k x * sv k y).natAbs = Vk k (rk k x) * Vk k (rk k y) := by rw [Int.natAbs_mul, sv_abs, sv_abs]
 have hr : rk k (fmul k x y) = rungN k.format (sv k x * sv k y).natAbs (2 * k.format.leastPlace) := by rw [h, rk_word hi, ha]
 refine ⟨?_, hr⟩
 by_cases h0 : sv k x * sv k y = 0
 ·have : rk k (fmul k x y) = 0 := by rw [hr, h0, Int.natAbs_zero];unfold rungN;rw [if_pos rfl]
  rw [this, h0, if_neg (by decide)]
  unfold sv;rw [this];simp [Vk, V_zero]
 ·have hs : sgn k.format (fmul k x y) = (sgn k.format x ^^ sgn k.format y) := by rw [h]; exact sgn_word hi
  have hx0 : sv k x ≠ 0 := fun e => h0 (by rw [e, Int.zero_mul])
  have hy0 : sv k y ≠ 0 := fun e => h0 (by rw [e, Int.mul_zero])
  have sg : ∀ z, sv k z ≠ 0 → (sgn k.format z = true → sv k z < 0) ∧ (sgn k.format z = false → 0 < sv k z) := fun z hz => by
   unfold sv at hz ⊢
   cases hq : sgn k.format z
   ·rw [hq, if_neg (by simp)] at hz
    rw [if_neg (by simp)]
    exact ⟨fun h => (by cases h), fun _ => by omega⟩
   ·rw [hq, if_pos rfl] at hz
    rw [if_pos rfl];exact ⟨fun _ => (by omega), fun h => (by cases h)⟩
  have gx := sg x hx0;have gy := sg y hy0;rw [show sv k (fmul k x y) = if sgn k.format (fmul k x y) = true then -(Vk k (rk k (fmul k x y)) : Int) else Vk k (rk k (fmul k x y)) from rfl, hs]
  cases h1 : sgn k.format x <;> cases h2 : sgn k.format y
  ·have := Int.mul_pos (gx.2 h1) (gy.2 h2)
   rw [if_neg (by simp), if_neg (by omega)]
  ·have := Int.mul_neg_of_pos_of_neg (gx.2 h1) (gy.1 h2)
   rw [if_pos (by simp), if_pos this]
  ·have := Int.mul_neg_of_neg_of_pos (gx.1 h1) (gy.2 h2)
   rw [if_pos (by simp), if_pos this]
  ·have := Int.mul_pos_of_neg_of_neg (gx.1 h1) (gy.1 h2)
   rw [if_neg (by simp), if_neg (by omega)]
def nrm2 (k : FloatKind) (S : Int) : Prop := S = 0 ∨ 2 ^ (k.format.fractionBits + (k.format.leastPlace - 2 * k.format.leastPlace).toNat) ≤ S.natAbs
theorem Sc.mul {d : Nat} (hx : Sc k c x x') (hy : Sc k d y y') (hn : nrm2 k (sv k x * sv k y)) (hz : rk k (fmul k x y) < inf k) (hz' : rk k (fmul k x' y') < inf k) : Sc k (c + d) (fmul k x y) (fmul k x' y') := by
 refine ⟨hz, hz', ?_⟩
 obtain ⟨h1, h2⟩ := mul_S hx.1 hy.1
 obtain ⟨h1', h2'⟩ := mul_S hx.2.1 hy.2.1
 have e : sv k x' * sv k y' = (sv k x * sv k y) * (2 : Int) ^ (c + d) := by
  rw [hx.2.2, hy.2.2, Int.pow_add];generalize (2 : Int) ^ c = a;generalize (2 : Int) ^ d = b
  grind
 rw [e, nat_scale] at h2'
 rw [e] at h1'
 rw [h1, h1']
 rw [h2'] at hz'
 refine sign_scale ?_
 rw [h2, h2']
 have hU := (okF k).hU
 exact rung_scale (by omega) (by
  rcases hn with h | h
  ·left; rw [h]; rfl
  ·right; exact h) hz'
theorem V_rep (f : Format) {j : Nat} (hj : j < 2 ^ (f.fractionBits + 1)) : ∀ t, ∃ q, V f q = j * 2 ^ t
 | 0 => ⟨j, by rw [V_low (by rw [Nat.pow_succ] at hj; show j < 2 * 2 ^ f.fractionBits; omega), Nat.pow_zero, Nat.mul_one]⟩
 | t + 1 => by obtain ⟨q, hq⟩ := V_rep f hj t;obtain ⟨q', hq'⟩ := V_dbl f q;exact ⟨q', by rw [hq', hq, Nat.pow_succ]; generalize 2 ^ t = w; grind⟩
theorem V_top (f : Format) (r : Nat) : ∃ m c, V f r = m * 2 ^ c ∧ V f (r + 1) ≤ 2 ^ (f.fractionBits + 1 + c) := by
 have hbp := binade_pos f
 have hb : f.binade = 2 ^ f.fractionBits := rfl
 by_cases h1 : r < f.binade
 ·refine ⟨r, 0, by rw [V_low (by omega)]; simp, ?_⟩
  rw [V_low (by omega), Nat.add_zero, Nat.pow_succ]
  omega
 ·refine ⟨f.binade + r % f.binade, r / f.binade - 1, by unfold V; rw [if_neg h1], ?_⟩
  have hdm := Nat.div_add_mod r f.binade;have hm := Nat.mod_lt r hbp;have hq : 1 ≤ r / f.binade := (Nat.le_div_iff_mul_le hbp).2 (by omega)
  unfold V;rw [if_neg (by omega)]
  generalize hqe : r / f.binade = q at *;generalize hme : r % f.binade = m at *
  by_cases h3 : m + 1 < f.binade
  ·have e1 : (r + 1) / f.binade = q := by rw [← hdm, Nat.add_assoc, Nat.mul_add_div hbp, Nat.div_eq_of_lt h3, Nat.add_zero]
   have e2 : (r + 1) % f.binade = m + 1 := by rw [← hdm, Nat.add_assoc, Nat.mul_add_mod, Nat.mod_eq_of_lt h3]
   rw [e1, e2, Nat.pow_add, Nat.pow_succ, ← hb];exact Nat.mul_le_mul_right _ (by omega)
  ·have e0 : m + 1 = f.binade := by omega
   have e1 : (r + 1) / f.binade = q + 1 := by rw [← hdm, Nat.add_assoc, e0, Nat.mul_add_div hbp, Nat.div_self hbp]
   have e2 : (r + 1) % f.binade = 0 := by rw [← hdm, Nat.add_assoc, e0, Nat.mul_add_mod, Nat.mod_self]
   rw [e1, e2, Nat.add_zero, hb, ← Nat.pow_add];exact Nat.pow_le_pow_right (by decide) (by omega)
theorem rd_grid {f : Format} {N t r : Nat} (h : Rd f N 1 r) (hr : r < f.infRung) (ht : 2 ^ t ∣ N) : 2 ^ t ∣ V f r := by
 obtain ⟨m, c, h1, h2⟩ := V_top f r
 rcases Nat.lt_or_ge c t with hc | hc
 ·obtain ⟨j, hj⟩ := ht
  have up : N < V f (r + 1) := by
   rcases Nat.lt_or_ge N (V f (r + 1)) with h' | h'
   ·exact h'
   ·have := h.2.2 (r + 1) (by omega) (by omega); omega
  have hlt : 2 ^ t * j < 2 ^ t * 2 ^ (f.fractionBits + 1) := by rw [← hj, ← Nat.pow_add];exact Nat.lt_of_lt_of_le up (Nat.le_trans h2 (Nat.pow_le_pow_right (by decide) (by omega)))
  have hj2 : j < 2 ^ (f.fractionBits + 1) := Nat.lt_of_mul_lt_mul_left hlt;obtain ⟨q, hq⟩ := V_rep f hj2 t;have hN : N = V f q := by rw [hq, hj, Nat.mul_comm]
  have hqi : q ≤ f.infRung := by
   rcases Nat.lt_or_ge q (r + 1) with h' | h'
   ·omega
   ·have := V_mono f h'; omega
  have := h.exact hqi (by rw [Nat.mul_one]; exact hN)
  rw [this, ← hN, hj];exact Nat.dvd_mul_right _ _
 ·rw [h1]
  exact Nat.dvd_trans (Nat.pow_dvd_pow 2 hc) (Nat.dvd_mul_left _ _)
theorem rd_cancel {f : Format} {N D r : Nat} (h : Rd f (N * D) D r) : Rd f N 1 r :=
 ⟨h.1, fun q hq hh => h.2.1 q hq (by rw [Nat.mul_one] at hh; exact Nat.mul_le_mul_right _ hh), fun q hq hh => h.2.2 q hq (by rw [Nat.mul_one] at hh; exact Nat.mul_le_mul_right _ hh)⟩
def gr (k : FloatKind) (t : Nat) (x : Nat) : Prop := 2 ^ t ∣ Vk k (rk k x)
theorem gr_sv {t : Nat} (h : gr k t x) : ((2 ^ t : Nat) : Int) ∣ sv k x := by
 have : ((2 ^ t : Nat) : Int) ∣ ((Vk k (rk k x) : Nat) : Int) := Int.natCast_dvd_natCast.2 h
 unfold sv
 split
 ·exact Int.dvd_neg.2 this
 ·exact this
theorem gr_add {t : Nat} (hx : rk k x < inf k) (hy : rk k y < inf k) (hz : rk k (fadd k x y) < inf k) (gx : gr k t x) (gy : gr k t y) : gr k t (fadd k x y) := by
 obtain ⟨r, _, h2, h3⟩ := add_S hx hy
 unfold gr
 rw [h2] at hz ⊢
 exact rd_grid h3 hz (Int.ofNat_dvd_left.1 (Int.dvd_add (gr_sv gx) (gr_sv gy)))
theorem gr_sub {t : Nat} (hx : rk k x < inf k) (hy : rk k y < inf k) (hz : rk k (fsub k x y) < inf k) (gx : gr k t x) (gy : gr k t y) : gr k t (fsub k x y) := by
 obtain ⟨r, _, h2, h3⟩ := sub_S hx hy
 unfold gr
 rw [h2] at hz ⊢
 exact rd_grid h3 hz (Int.ofNat_dvd_left.1 (Int.dvd_sub (gr_sv gx) (gr_sv gy)))
theorem gr_mul {a b t : Nat} (hx : rk k x < inf k) (hy : rk k y < inf k) (hz : rk k (fmul k x y) < inf k) (gx : gr k a x) (gy : gr k b y) (ht : a + b = t + (-k.format.leastPlace).toNat) : gr k t (fmul k x y) := by
 obtain ⟨r, h1, h2⟩ := fmul_R hx hy
 unfold gr
 rw [h1, rk_word h2.1] at hz ⊢
 obtain ⟨m, hm⟩ := gx
 obtain ⟨n, hn⟩ := gy
 have e : Vk k (rk k x) * Vk k (rk k y) = (2 ^ t * (m * n)) * dn k := by
  rw [hm, hn, show (2 ^ a * m) * (2 ^ b * n) = 2 ^ (a + b) * (m * n) by rw [Nat.pow_add]; generalize 2 ^ a = p; generalize 2 ^ b = q; grind, ht, Nat.pow_add]
  show 2 ^ t * dn k * (m * n) = _;generalize 2 ^ t = p;generalize dn k = q
  grind
 rw [e] at h2
 exact rd_grid (rd_cancel h2) hz (Nat.dvd_mul_right _ _)
theorem gr_low {t : Nat} {S : Int} (h : ((2 ^ t : Nat) : Int) ∣ S) : S = 0 ∨ 2 ^ t ≤ S.natAbs := by
 rcases Nat.eq_zero_or_pos S.natAbs with h0 | h0
 ·left; omega
 ·right; exact Nat.le_of_dvd h0 (Int.ofNat_dvd_left.1 h)
theorem nrm_gr {t : Nat} {S : Int} (h : ((2 ^ t : Nat) : Int) ∣ S) (ht : k.format.fractionBits ≤ t) : nrm k S := by
 rcases gr_low h with h | h
 ·exact .inl h
 ·exact .inr (Nat.le_trans (Nat.pow_le_pow_right (by decide) ht) h)
theorem nrm2_gr {a b : Nat} (gx : gr k a x) (gy : gr k b y) (ht : k.format.fractionBits + (k.format.leastPlace - 2 * k.format.leastPlace).toNat ≤ a + b) : nrm2 k (sv k x * sv k y) := by
 have : ((2 ^ (a + b) : Nat) : Int) ∣ sv k x * sv k y := by
  rw [Nat.pow_add]
  push_cast
  have h1 := gr_sv gx;have h2 := gr_sv gy
  push_cast at h1 h2
  exact Int.mul_dvd_mul h1 h2
 rcases gr_low this with h | h
 ·exact .inl h
 ·exact .inr (Nat.le_trans (Nat.pow_le_pow_right (by decide) ht) h)
end Vs
