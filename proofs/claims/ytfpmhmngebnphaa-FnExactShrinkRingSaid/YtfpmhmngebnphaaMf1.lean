/-
  Rounding to a format is monotone, and a value that the format has is rounded to itself.
-/
import Derived.Test.YtfpmhmngebnphaaNs19
namespace Vs
open Go Ieee

def rnd (n d : Nat) : Nat := n / 2 ^ d + (decide (2 ^ d < 2 * (n % 2 ^ d)) || (2 ^ d == 2 * (n % 2 ^ d) && n / 2 ^ d % 2 == 1)).toNat

theorem rnd_le (n d : Nat) : rnd n d ≤ n / 2 ^ d + 1 := by
  unfold rnd
  have := Bool.toNat_le (decide (2 ^ d < 2 * (n % 2 ^ d)) || (2 ^ d == 2 * (n % 2 ^ d) && n / 2 ^ d % 2 == 1))
  omega
theorem le_rnd (n d : Nat) : n / 2 ^ d ≤ rnd n d := Nat.le_add_right _ _

theorem cut_rnd (neg : Bool) (n d : Nat) : Toward.even.cut neg n d = rnd n d := by
  by_cases h : d ≤ n.log2 + 2
  · simp only [Toward.cut, rnd, Nat.min_eq_left h, Nat.one_shiftLeft]
  · have hn : n < 2 ^ (n.log2 + 1) := Nat.lt_log2_self
    have h2 : 2 ^ (n.log2 + 2) = 2 * 2 ^ (n.log2 + 1) := by rw [Nat.pow_succ, Nat.mul_comm]
    have h3 : 2 ^ (n.log2 + 2) ≤ 2 ^ d := Nat.pow_le_pow_right (by decide) (by omega)
    have e1 : n % 2 ^ (n.log2 + 2) = n := Nat.mod_eq_of_lt (by omega)
    have e2 : n / 2 ^ (n.log2 + 2) = 0 := Nat.div_eq_of_lt (by omega)
    have e3 : n % 2 ^ d = n := Nat.mod_eq_of_lt (by omega)
    have e4 : n / 2 ^ d = 0 := Nat.div_eq_of_lt (by omega)
    have c1 : ¬ (2 ^ (n.log2 + 2) < 2 * n) := by omega
    have c2 : ¬ (2 ^ d < 2 * n) := by omega
    simp [Toward.cut, rnd, Nat.min_eq_right (show n.log2 + 2 ≤ d by omega), Nat.one_shiftLeft, e1, e2, e3, e4, c1, c2]

theorem rnd_mono {n m d : Nat} (h : n ≤ m) : rnd n d ≤ rnd m d := by
  have hq : n / 2 ^ d ≤ m / 2 ^ d := Nat.div_le_div_right h
  rcases Nat.lt_or_eq_of_le hq with hlt | heq
  · exact Nat.le_trans (rnd_le n d) (Nat.le_trans hlt (le_rnd m d))
  · unfold rnd
    have hr : n % 2 ^ d ≤ m % 2 ^ d := by
      have h1 := Nat.div_add_mod n (2 ^ d)
      have h2 := Nat.div_add_mod m (2 ^ d)
      rw [← heq] at h2
      omega
    rw [← heq]
    refine Nat.add_le_add_left ?_ _
    generalize n % 2 ^ d = r at hr ⊢
    generalize m % 2 ^ d = s at hr ⊢
    generalize 2 ^ d = g at hr ⊢
    generalize n / g = q
    cases hb : (decide (g < 2 * r) || (g == 2 * r && q % 2 == 1)) with
    | false => simp
    | true =>
      have : (decide (g < 2 * s) || (g == 2 * s && q % 2 == 1)) = true := by
        simp only [Bool.or_eq_true, decide_eq_true_eq, Bool.and_eq_true, beq_iff_eq] at hb ⊢
        omega
      rw [this]
      exact Nat.le_refl _

theorem rnd_mul (n d k : Nat) : rnd (n * 2 ^ k) (d + k) = rnd n d := by
  unfold rnd
  have hk : 0 < 2 ^ k := Nat.two_pow_pos k
  rw [Nat.pow_add, Nat.mul_div_mul_right _ _ hk, Nat.mul_mod_mul_right]
  have e1 : (2 ^ d * 2 ^ k < 2 * (n % 2 ^ d * 2 ^ k)) = (2 ^ d < 2 * (n % 2 ^ d)) := by
    rw [← Nat.mul_assoc]
    exact propext (Nat.mul_lt_mul_right hk)
  have e2 : (2 ^ d * 2 ^ k == 2 * (n % 2 ^ d * 2 ^ k)) = (2 ^ d == 2 * (n % 2 ^ d)) := by
    rw [← Nat.mul_assoc]
    rw [Bool.eq_iff_iff]
    simp only [beq_iff_eq]
    exact ⟨fun h => Nat.eq_of_mul_eq_mul_right hk h, fun h => congrArg (· * 2 ^ k) h⟩
  simp only [e1, e2]

theorem rnd_zero (n : Nat) : rnd n 0 = n := by
  simp [rnd]
  omega

/-- The rung of N * 2 ^ B, where B is at most the least place. -/
def rungN (f : Format) (N : Nat) (B : Int) : Nat :=
  if N = 0 then 0 else
  let last := max (B + N.log2 - f.fractionBits) f.leastPlace
  min ((last - f.leastPlace).toNat * f.binade + rnd N (last - B).toNat) f.infRung

theorem log2_mul_pow {n : Nat} (h : n ≠ 0) (k : Nat) : (n * 2 ^ k).log2 = n.log2 + k := by
  induction k with
  | zero => simp
  | succ k ih =>
    have h2 : n * 2 ^ k ≠ 0 := Nat.mul_ne_zero h (Nat.pos_iff_ne_zero.1 (Nat.two_pow_pos k))
    have h3 : n * 2 ^ (k + 1) = 2 * (n * 2 ^ k) := by rw [Nat.pow_succ, ← Nat.mul_assoc, Nat.mul_comm]
    rw [h3, Nat.log2_two_mul h2, ih]
    omega

theorem nearest_rung {f : Format} {neg : Bool} {mag : Nat} {place B : Int} (hB : B ≤ place) (hl : B ≤ f.leastPlace) :
    f.nearest neg mag place = f.word neg (rungN f (mag * 2 ^ (place - B).toNat) B) := by
  unfold Format.nearest rungN
  by_cases h0 : mag = 0
  · subst h0
    simp
  · have h1 : mag * 2 ^ (place - B).toNat ≠ 0 := Nat.mul_ne_zero h0 (Nat.pos_iff_ne_zero.1 (Nat.two_pow_pos _))
    rw [if_neg h0, if_neg h1]
    simp only [log2_mul_pow h0, cut_rnd, Nat.shiftLeft_eq]
    have e : B + ((mag.log2 + (place - B).toNat : Nat) : Int) - f.fractionBits = place + mag.log2 - f.fractionBits := by omega
    rw [e]
    generalize hlast : max (place + (mag.log2 : Int) - f.fractionBits) f.leastPlace = last
    have hge : B ≤ last := by omega
    have e2 : rnd (mag * 2 ^ (place - last).toNat) (last - place).toNat = rnd (mag * 2 ^ (place - B).toNat) (last - B).toNat := by
      rcases Int.le_total last place with hp | hp
      · have a1 : (last - place).toNat = 0 := by omega
        have a2 : (place - B).toNat = (place - last).toNat + (last - B).toNat := by omega
        rw [a1, a2, Nat.pow_add, ← Nat.mul_assoc]
        have := rnd_mul (mag * 2 ^ (place - last).toNat) 0 (last - B).toNat
        rw [Nat.zero_add] at this
        rw [this]
      · have a1 : (place - last).toNat = 0 := by omega
        have a2 : (last - B).toNat = (last - place).toNat + (place - B).toNat := by omega
        rw [a1, a2, rnd_mul, Nat.pow_zero, Nat.mul_one]
    rw [e2]

theorem rungN_mono {f : Format} {N M : Nat} {B : Int} (hl : B ≤ f.leastPlace) (h : N ≤ M) : rungN f N B ≤ rungN f M B := by
  unfold rungN
  by_cases hN : N = 0
  · rw [if_pos hN]; exact Nat.zero_le _
  · have hM : M ≠ 0 := by omega
    rw [if_neg hN, if_neg hM]
    simp only
    have hlog : N.log2 ≤ M.log2 := (Nat.le_log2 hM).2 (Nat.le_trans (Nat.log2_self_le hN) h)
    generalize h1 : max (B + (N.log2 : Int) - f.fractionBits) f.leastPlace = l1
    generalize h2 : max (B + (M.log2 : Int) - f.fractionBits) f.leastPlace = l2
    have h12 : l1 ≤ l2 := by omega
    refine (Nat.le_min).2 ⟨?_, Nat.min_le_right _ _⟩
    refine Nat.le_trans (Nat.min_le_left _ _) ?_
    rcases Int.lt_or_eq_of_le h12 with hlt | heq
    · -- a binade higher
      have hb : f.binade = 2 ^ f.fractionBits := rfl
      have k1 : rnd N (l1 - B).toNat ≤ 2 * f.binade := by
        have hN2 : N < 2 ^ (N.log2 + 1) := Nat.lt_log2_self
        have hexp : N.log2 + 1 ≤ (f.fractionBits + 1) + (l1 - B).toNat := by omega
        have hN3 : N ≤ 2 ^ (f.fractionBits + 1) * 2 ^ (l1 - B).toNat := by
          rw [← Nat.pow_add]
          exact Nat.le_trans (Nat.le_of_lt hN2) (Nat.pow_le_pow_right (by decide) hexp)
        have := rnd_mono (d := (l1 - B).toNat) hN3
        have hx := rnd_mul (2 ^ (f.fractionBits + 1)) 0 (l1 - B).toNat
        rw [Nat.zero_add, rnd_zero] at hx
        rw [hx, Nat.pow_succ, Nat.mul_comm] at this
        exact this
      have k2 : f.binade ≤ rnd M (l2 - B).toNat := by
        have hexp : M.log2 = f.fractionBits + (l2 - B).toNat := by omega
        refine Nat.le_trans ?_ (le_rnd _ _)
        rw [Nat.le_div_iff_mul_le (Nat.two_pow_pos _), hb, ← Nat.pow_add, ← hexp]
        exact Nat.log2_self_le hM
      have k3 : (l1 - f.leastPlace).toNat + 1 ≤ (l2 - f.leastPlace).toNat := by omega
      have k4 := Nat.mul_le_mul_right f.binade k3
      rw [Nat.add_mul, Nat.one_mul] at k4
      omega
    · subst heq
      exact Nat.add_le_add_left (rnd_mono h) _

/-- The value of a rung that is finite, in units of 2 ^ B. -/
def valN (f : Format) (r : Nat) (B : Int) : Nat :=
  if r < f.binade then r * 2 ^ (f.leastPlace - B).toNat else (f.binade + r % f.binade) * 2 ^ (f.leastPlace + (r / f.binade - 1 : Nat) - B).toNat

theorem rungN_val {f : Format} {r : Nat} {B : Int} (hl : B ≤ f.leastPlace) (hr : r < f.infRung) : rungN f (valN f r B) B = r := by
  have hb : f.binade = 2 ^ f.fractionBits := rfl
  have hbp : 0 < f.binade := Nat.two_pow_pos _
  unfold valN
  split
  · rename_i hlt
    by_cases h0 : r = 0
    · subst h0; simp [rungN]
    · have h1 : r * 2 ^ (f.leastPlace - B).toNat ≠ 0 := Nat.mul_ne_zero h0 (Nat.pos_iff_ne_zero.1 (Nat.two_pow_pos _))
      have hlog : r.log2 < f.fractionBits := (Nat.log2_lt h0).2 hlt
      unfold rungN
      rw [if_neg h1]
      simp only [log2_mul_pow h0]
      have e : max (B + ((r.log2 + (f.leastPlace - B).toNat : Nat) : Int) - f.fractionBits) f.leastPlace = f.leastPlace := by omega
      rw [e]
      have := rnd_mul r 0 (f.leastPlace - B).toNat
      rw [Nat.zero_add, rnd_zero] at this
      rw [this, Int.sub_self]
      simp only [Int.toNat_zero, Nat.zero_mul, Nat.zero_add]
      omega
  · rename_i hge
    have hq : 1 ≤ r / f.binade := (Nat.le_div_iff_mul_le hbp).2 (by omega)
    have h0 : f.binade + r % f.binade ≠ 0 := by omega
    have hmod : r % f.binade < f.binade := Nat.mod_lt _ hbp
    have hlog : (f.binade + r % f.binade).log2 = f.fractionBits := by
      refine Nat.le_antisymm ?_ ?_
      · have : (f.binade + r % f.binade).log2 < f.fractionBits + 1 := (Nat.log2_lt h0).2 (by rw [Nat.pow_succ, ← hb]; omega)
        omega
      · exact (Nat.le_log2 h0).2 (by rw [← hb]; omega)
    have h1 : (f.binade + r % f.binade) * 2 ^ (f.leastPlace + (r / f.binade - 1 : Nat) - B).toNat ≠ 0 := Nat.mul_ne_zero h0 (Nat.pos_iff_ne_zero.1 (Nat.two_pow_pos _))
    unfold rungN
    rw [if_neg h1]
    simp only [log2_mul_pow h0, hlog]
    generalize hk : r / f.binade - 1 = k
    have e : max (B + ((f.fractionBits + (f.leastPlace + (k : Nat) - B).toNat : Nat) : Int) - f.fractionBits) f.leastPlace = f.leastPlace + (k : Nat) := by omega
    rw [e]
    have := rnd_mul (f.binade + r % f.binade) 0 (f.leastPlace + (k : Nat) - B).toNat
    rw [Nat.zero_add, rnd_zero] at this
    rw [this]
    have e2 : (f.leastPlace + (k : Nat) - f.leastPlace).toNat = k := by omega
    rw [e2]
    have h3 := Nat.div_add_mod r f.binade
    have h4 : r / f.binade = k + 1 := by omega
    rw [h4, Nat.mul_add, Nat.mul_one, Nat.mul_comm] at h3
    omega

end Vs
