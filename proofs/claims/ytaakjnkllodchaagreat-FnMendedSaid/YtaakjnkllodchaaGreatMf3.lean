/-
  Floats by their rungs: what the operations give lies between rungs that the exact value lies between.
-/
import Derived.Test.YtaakjnkllodchaaGreatE
set_option maxHeartbeats 4000000
namespace Vs
open Go Ieee
def V (f : Format) (r : Nat) : Nat := if r < f.binade then r else (f.binade + r % f.binade) * 2 ^ (r / f.binade - 1)
def rg (f : Format) (x : Nat) : Nat := x % f.signWeight
def sgn (f : Format) (x : Nat) : Bool := x / f.signWeight % 2 == 1
theorem binade_pos (f : Format) : 0 < f.binade := Nat.two_pow_pos _
theorem V_succ (f : Format) (r : Nat) : V f r < V f (r + 1) := by
 have hbp := binade_pos f
 unfold V
 by_cases h1 : r + 1 < f.binade
 ·rw [if_pos (by omega), if_pos h1]
  omega
 by_cases h2 : r < f.binade
 ·have e : r + 1 = f.binade := by omega
  rw [if_pos h2, if_neg h1, e, Nat.mod_self, Nat.div_self hbp];omega
 ·rw [if_neg h2, if_neg h1]
  have hdm := Nat.div_add_mod r f.binade;have hm := Nat.mod_lt r hbp;have hq : 1 ≤ r / f.binade := (Nat.le_div_iff_mul_le hbp).2 (by omega)
  generalize hqe : r / f.binade = q at *;generalize hme : r % f.binade = m at *
  by_cases h3 : m + 1 < f.binade
  ·have e1 : (r + 1) / f.binade = q := by rw [← hdm, Nat.add_assoc, Nat.mul_add_div hbp, Nat.div_eq_of_lt h3, Nat.add_zero]
   have e2 : (r + 1) % f.binade = m + 1 := by rw [← hdm, Nat.add_assoc, Nat.mul_add_mod, Nat.mod_eq_of_lt h3]
   rw [e1, e2];exact Nat.mul_lt_mul_of_pos_right (by omega) (Nat.two_pow_pos _)
  ·have e0 : m + 1 = f.binade := by omega
   have e1 : (r + 1) / f.binade = q + 1 := by rw [← hdm, Nat.add_assoc, e0, Nat.mul_add_div hbp, Nat.div_self hbp]
   have e2 : (r + 1) % f.binade = 0 := by rw [← hdm, Nat.add_assoc, e0, Nat.mul_add_mod, Nat.mod_self]
   rw [e1, e2];have e3 : q + 1 - 1 = (q - 1) + 1 := by omega
   rw [e3, Nat.pow_succ, Nat.add_zero, ← Nat.mul_assoc, Nat.mul_right_comm];exact Nat.mul_lt_mul_of_pos_right (by omega) (Nat.two_pow_pos _)
theorem V_strict (f : Format) {r s : Nat} (h : r < s) : V f r < V f s := by
 induction s with
 | zero => omega
 | succ s ih =>
  rcases Nat.lt_or_ge r s with h1 | h1
  ·exact Nat.lt_trans (ih h1) (V_succ f s)
  ·have : r = s := by omega
   subst this;exact V_succ f r
theorem V_mono (f : Format) {r s : Nat} (h : r ≤ s) : V f r ≤ V f s := by
 rcases Nat.lt_or_eq_of_le h with h1 | h1
 ·exact Nat.le_of_lt (V_strict f h1)
 ·rw [h1]; exact Nat.le_refl _
theorem valN_V {f : Format} {r : Nat} {B : Int} (hB : B ≤ f.leastPlace) : valN f r B = V f r * 2 ^ (f.leastPlace - B).toNat := by
 unfold valN V
 split
 ·rfl
 ·rw [Nat.mul_assoc, ← Nat.pow_add]
  congr 2
  omega
theorem infRung_ge (f : Format) (he : 2 ≤ f.exponentBits) : f.binade ≤ f.infRung := by
 unfold Format.infRung
 have : 2 ^ 2 ≤ 2 ^ f.exponentBits := Nat.pow_le_pow_right (by decide) he
 exact Nat.le_mul_of_pos_left _ (by omega)
theorem rungN_inf {f : Format} {B : Int} (he : 2 ≤ f.exponentBits) (hl : B ≤ f.leastPlace) : rungN f (valN f f.infRung B) B = f.infRung := by
 have hb : f.binade = 2 ^ f.fractionBits := rfl
 have hbp := binade_pos f
 have h4 : 2 ^ 2 ≤ 2 ^ f.exponentBits := Nat.pow_le_pow_right (by decide) he
 unfold valN
 rw [if_neg (by have := infRung_ge f he; omega)]
 have e1 : f.infRung % f.binade = 0 := by unfold Format.infRung; exact Nat.mul_mod_left _ _
 have e2 : f.infRung / f.binade = 2 ^ f.exponentBits - 1 := by unfold Format.infRung; exact Nat.mul_div_cancel _ hbp
 rw [e1, e2, Nat.add_zero]
 generalize hk : 2 ^ f.exponentBits - 1 - 1 = k
 have h0 : f.binade ≠ 0 := by omega
 have h1 : f.binade * 2 ^ (f.leastPlace + (k : Nat) - B).toNat ≠ 0 := Nat.mul_ne_zero h0 (Nat.pos_iff_ne_zero.1 (Nat.two_pow_pos _))
 have hlog : f.binade.log2 = f.fractionBits := by rw [hb]; exact Nat.log2_two_pow
 unfold rungN
 rw [if_neg h1]
 simp only [log2_mul_pow h0, hlog]
 have e : max (B + ((f.fractionBits + (f.leastPlace + (k : Nat) - B).toNat : Nat) : Int) - f.fractionBits) f.leastPlace = f.leastPlace + (k : Nat) := by omega
 rw [e]
 have := rnd_mul f.binade 0 (f.leastPlace + (k : Nat) - B).toNat
 rw [Nat.zero_add, rnd_zero] at this
 rw [this]
 have e3 : (f.leastPlace + (k : Nat) - f.leastPlace).toNat = k := by omega
 rw [e3]
 have e4 : f.infRung = k * f.binade + f.binade := by
  unfold Format.infRung;rw [← Nat.succ_mul]
  congr 1
  omega
 rw [e4, Nat.min_self]
structure FOk (f : Format) : Prop where
 he : 2 ≤ f.exponentBits
 hU : f.leastPlace ≤ 0
 hw : f.infRung < f.signWeight
theorem okS : FOk single := ⟨by decide, by decide, by decide⟩
theorem okD : FOk double := ⟨by decide, by decide, by decide⟩
theorem rungN_le_inf (f : Format) (N : Nat) (B : Int) : rungN f N B ≤ f.infRung := by
 unfold rungN
 split
 ·exact Nat.zero_le _
 ·exact Nat.min_le_right _ _
theorem rung_val {f : Format} (hf : FOk f) {q : Nat} {B : Int} (hB : B ≤ f.leastPlace) (hq : q ≤ f.infRung) : rungN f (V f q * 2 ^ (f.leastPlace - B).toNat) B = q := by
 rw [← valN_V hB]
 rcases Nat.lt_or_eq_of_le hq with h1 | h1
 ·exact rungN_val hB h1
 ·rw [h1]; exact rungN_inf hf.he hB
theorem rung_le {f : Format} (hf : FOk f) {N q : Nat} {B : Int} (hB : B ≤ f.leastPlace) (hq : q ≤ f.infRung) (h : N ≤ V f q * 2 ^ (f.leastPlace - B).toNat) : rungN f N B ≤ q := by
 have := rungN_mono hB h
 rwa [rung_val hf hB hq] at this
theorem le_rung {f : Format} (hf : FOk f) {N q : Nat} {B : Int} (hB : B ≤ f.leastPlace) (hq : q ≤ f.infRung) (h : V f q * 2 ^ (f.leastPlace - B).toNat ≤ N) : q ≤ rungN f N B := by
 have := rungN_mono hB h
 rwa [rung_val hf hB hq] at this
def Rd (f : Format) (N D r : Nat) : Prop := r ≤ f.infRung ∧ (∀ q, q ≤ f.infRung → N ≤ V f q * D → r ≤ q) ∧ (∀ q, q ≤ f.infRung → V f q * D ≤ N → q ≤ r)
theorem Rd.exact {f : Format} {N D r q : Nat} (h : Rd f N D r) (hq : q ≤ f.infRung) (e : N = V f q * D) : r = q :=
 Nat.le_antisymm (h.2.1 q hq (by omega)) (h.2.2 q hq (by omega))
theorem word_rg {f : Format} (hf : FOk f) {s : Bool} {r : Nat} (h : r ≤ f.infRung) : rg f (f.word s r) = r := word_mod (by have := hf.hw; omega)
theorem word_sgn {f : Format} (hf : FOk f) {s : Bool} {r : Nat} (h : r ≤ f.infRung) : sgn f (f.word s r) = s := by
 have hw := hf.hw
 have hp : 0 < f.signWeight := by omega
 unfold sgn Format.word
 cases s
 ·simp [Nat.div_eq_of_lt (show r < f.signWeight by omega)]
 ·simp [Nat.add_div_left r hp, Nat.div_eq_of_lt (show r < f.signWeight by omega)]
theorem word_inj {f : Format} {s : Bool} {a b : Nat} (h : f.word s a = f.word s b) : a = b := by
 unfold Format.word at h
 cases s <;> simp at h <;> omega
theorem nearest_R {f : Format} (s : Bool) (m : Nat) (e : Int) : ∃ r, f.nearest s m e = f.word s r ∧ ∀ B, B ≤ e → B ≤ f.leastPlace → r = rungN f (m * 2 ^ (e - B).toNat) B := by
 refine ⟨rungN f (m * 2 ^ (e - min e f.leastPlace).toNat) (min e f.leastPlace), nearest_rung (by omega) (by omega), fun B h1 h2 => ?_⟩
 exact word_inj ((nearest_rung (neg := s) (mag := m) (by omega) (by omega)).symm.trans (nearest_rung h1 h2))
theorem read_fin {f : Format} {x : Nat} (h : rg f x < f.infRung) : ∃ m e, f.read x = .number (sgn f x) m e ∧ f.leastPlace ≤ e ∧ m * 2 ^ (e - f.leastPlace).toNat = V f (rg f x) ∧ m < 2 ^ (f.fractionBits + 1) ∧ (rg f x ≠ 0 → m ≠ 0) := by
 have hbp := binade_pos f
 have hb : f.binade = 2 ^ f.fractionBits := rfl
 unfold rg at h
 unfold Format.read rg V sgn
 simp only
 split
 ·refine ⟨_, _, rfl, Int.le_refl _, by simp, by rw [Nat.pow_succ]; omega, fun h => h⟩
 ·refine ⟨_, _, rfl, by omega, ?_, ?_, fun _ => by omega⟩
  ·congr 2
   omega
  ·have := Nat.mod_lt (x % f.signWeight) hbp
   rw [Nat.pow_succ]; omega
theorem pow_split {a b c : Int} (h1 : a ≤ b) (h2 : b ≤ c) : 2 ^ (c - a).toNat = 2 ^ (c - b).toNat * 2 ^ (b - a).toNat := by rw [← Nat.pow_add]; congr 1; omega
theorem mul_R {f : Format} (hf : FOk f) {x y : Nat} (hx : rg f x < f.infRung) (hy : rg f y < f.infRung) :
  ∃ r, f.mul x y = some (f.word (sgn f x ^^ sgn f y) r) ∧ Rd f (V f (rg f x) * V f (rg f y)) (2 ^ (-f.leastPlace).toNat) r := by
 obtain ⟨m, i, h1, h2, h3, _⟩ := read_fin hx
 obtain ⟨n, j, h4, h5, h6, _⟩ := read_fin hy
 have hU := hf.hU
 obtain ⟨r, hr, hB⟩ := nearest_R (f := f) (sgn f x ^^ sgn f y) (m * n) (i + j)
 refine ⟨r, by simp [Format.mul, h1, h4, Datum.product, Format.write, hr], ?_⟩
 have hr2 := hB (f.leastPlace + f.leastPlace) (by omega) (by omega)
 have e1 : m * n * 2 ^ (i + j - (f.leastPlace + f.leastPlace)).toNat = V f (rg f x) * V f (rg f y) := by
  rw [← h3, ← h6];have : (i + j - (f.leastPlace + f.leastPlace)).toNat = (i - f.leastPlace).toNat + (j - f.leastPlace).toNat := by omega
  rw [this, Nat.pow_add];simp only [Nat.mul_assoc, Nat.mul_left_comm]
 rw [e1] at hr2
 have e2 : (f.leastPlace - (f.leastPlace + f.leastPlace)).toNat = (-f.leastPlace).toNat := by omega
 refine ⟨by rw [hr2]; exact rungN_le_inf _ _ _, fun q hq h => ?_, fun q hq h => ?_⟩
 ·rw [hr2]; exact rung_le hf (by omega) hq (by rw [e2]; exact h)
 ·rw [hr2]; exact le_rung hf (by omega) hq (by rw [e2]; exact h)
theorem signed_abs (s : Bool) (m k : Nat) : signed s m k = if s = true then -((m * 2 ^ k : Nat) : Int) else ((m * 2 ^ k : Nat) : Int) := by
 unfold signed
 rw [Nat.shiftLeft_eq]
theorem sum_R {f : Format} (hf : FOk f) {x y : Nat} (s t : Bool) {m n : Nat} {i j : Int} (h2 : f.leastPlace ≤ i) (h3 : m * 2 ^ (i - f.leastPlace).toNat = V f x)
  (h5 : f.leastPlace ≤ j) (h6 : n * 2 ^ (j - f.leastPlace).toNat = V f y) :
  ∃ r u, ((Datum.number s m i).sum (.number t n j)).map f.write = some (f.word u r) ∧
   Rd f ((if s = true then -(V f x : Int) else V f x) + (if t = true then -(V f y : Int) else V f y)).natAbs 1 r ∧ (s = false → t = false → u = false) := by
 have hU := hf.hU
 simp only [Datum.sum, Option.map_some, Format.write]
 generalize hu : (if signed s m (i - min i j).toNat + signed t n (j - min i j).toNat = 0 then s && t else decide (signed s m (i - min i j).toNat + signed t n (j - min i j).toNat < 0)) = u
 have hus : s = false → t = false → u = false := by
  intro e1 e2;subst e1 e2;rw [← hu];simp only [signed_abs, Bool.false_eq_true, if_false];generalize m * 2 ^ (i - min i j).toNat = a;generalize n * 2 ^ (j - min i j).toNat = b;split
  ·rfl
  ·simp; omega
 obtain ⟨r, hr, hB⟩ := nearest_R (f := f) u (signed s m (i - min i j).toNat + signed t n (j - min i j).toNat).natAbs (min i j)
 refine ⟨r, u, by rw [hr], ?_, hus⟩
 have hr2 := hB f.leastPlace (by omega) (Int.le_refl _)
 have e1 : (signed s m (i - min i j).toNat + signed t n (j - min i j).toNat).natAbs * 2 ^ (min i j - f.leastPlace).toNat =
   ((if s = true then -(V f x : Int) else V f x) + (if t = true then -(V f y : Int) else V f y)).natAbs := by
  have p1 := pow_split (show f.leastPlace ≤ min i j by omega) (show min i j ≤ i by omega)
  have p2 := pow_split (show f.leastPlace ≤ min i j by omega) (show min i j ≤ j by omega)
  rw [← h3, ← h6, p1, p2];generalize 2 ^ (min i j - f.leastPlace).toNat = w;have : ∀ z : Int, z.natAbs * w = (z * (w : Int)).natAbs := fun z => by rw [Int.natAbs_mul, Int.natAbs_natCast]
  rw [this]
  congr 1
  simp only [signed_abs];have q1 : m * 2 ^ (i - min i j).toNat * w = m * (2 ^ (i - min i j).toNat * w) := Nat.mul_assoc _ _ _;have q2 : n * 2 ^ (j - min i j).toNat * w = n * (2 ^ (j - min i j).toNat * w) := Nat.mul_assoc _ _ _;rw [← q1, ← q2];generalize m * 2 ^ (i - min i j).toNat = a;generalize n * 2 ^ (j - min i j).toNat = b
  cases s <;> cases t <;> simp [Int.add_mul, Int.neg_mul]
 rw [e1] at hr2
 have e2 : (f.leastPlace - f.leastPlace).toNat = 0 := by omega
 refine ⟨by rw [hr2]; exact rungN_le_inf _ _ _, fun q hq h => ?_, fun q hq h => ?_⟩
 ·rw [hr2]; exact rung_le hf (Int.le_refl _) hq (by rw [e2]; simpa using h)
 ·rw [hr2]; exact le_rung hf (Int.le_refl _) hq (by rw [e2]; simpa using h)
end Vs
