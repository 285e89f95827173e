/-
  Floats by their rungs: what the operations give lies between rungs that the exact value lies between.
-/
import Derived.Test.YtbaijndhllhplaaE
set_option maxHeartbeats 4000000
namespace Vs
open Go Ieee
def V (f : Format) (r : Nat) : Nat := if r < f.binade then r else (f.binade + r % f.binade) * 2 ^ (r / f.binade - 1)
def rg (f : Format) (x : Nat) : Nat := x % f.signWeight
def sgn (f : Format) (x : Nat) : Bool := x / f.signWeight % 2 == 1
theorem binade_pos (f : Format) : 0 < f.binade := Nat.two_pow_pos _
theorem V_succ (f : Format) (r : Nat) : V f r < V f (r + 1) := by
 have hbp := binade_pos f
 unfold V
 by_cases h1 : r + 1 < f.binade
 ·rw [if_pos (by omega), if_pos h1]
  omega
 by_cases h2 : r < f.binade
 ·have e : r + 1 = f.binade := by omega
  rw [if_pos h2, if_neg h1, e, Nat.mod_self, Nat.div_self hbp];omega
 ·rw [if_neg h2, if_neg h1]
  have hdm := Nat.div_add_mod r f.binade;have hm := Nat.mod_lt r hbp;have hq : 1 ≤ r / f.binade := (Nat.le_div_iff_mul_le hbp).2 (by omega)
  generalize hqe : r / f.binade = q at *;generalize hme : r % f.binade = m at *
  by_cases h3 : m + 1 < f.binade
  ·have e1 : (r + 1) / f.binade = q := by rw [← hdm, Nat.add_assoc, Nat.mul_add_div hbp, Nat.div_eq_of_lt h3, Nat.add_zero]
   have e2 : (r + 1) % f.binade = m + 1 := by rw [← hdm, Nat.add_assoc, Nat.mul_add_mod, Nat.mod_eq_of_lt h3]
   rw [e1, e2];exact Nat.mul_lt_mul_of_pos_right (by omega) (Nat.two_pow_pos _)
  ·have e0 : m + 1 = f.binade := by omega
   have e1 : (r + 1) / f.binade = q + 1 := by rw [← hdm, Nat.add_assoc, e0, Nat.mul_add_div hbp, Nat.div_self hbp]
   have e2 : (r + 1) % f.binade = 0 := by rw [← hdm, Nat.add_assoc, e0, Nat.mul_add_mod, Nat.mod_self]
   rw [e1, e2];have e3 : q + 1 - 1 = (q - 1) + 1 := by omega
   rw [e3, Nat.pow_succ, Nat.add_zero, ← Nat.mul_assoc, Nat.mul_right_comm];exact Nat.mul_lt_mul_of_pos_right (by omega) (Nat.two_pow_pos _)
theorem V_strict (f : Format) {r s : Nat} (h : r < s) : V f r < V f s := by
 induction s with
 | zero => omega
 | succ s ih =>
  rcases Nat.lt_or_ge r s with h1 | h1
  ·exact Nat.lt_trans (ih h1) (V_succ f s)
  ·have : r = s := by omega
   subst this;exact V_succ f r
theorem V_mono (f : Format) {r s : Nat} (h : r ≤ s) : V f r ≤ V f s := by
 rcases Nat.lt_or_eq_of_le h with h1 | h1
 ·exact Nat.le_of_lt (V_strict f h1)
 ·rw [h1]; exact Nat.le_refl _
theorem V_le {f : Format} {r s : Nat} (h : V f r ≤ V f s) : r ≤ s := by
 rcases Nat.lt_or_ge s r with h1 | h1
 ·have := V_strict f h1; omega
 ·exact h1
theorem V_pos {f : Format} {r : Nat} (h : 0 < r) : 0 < V f r := Nat.lt_of_le_of_lt (Nat.zero_le _) (V_strict f h)
theorem V_zero (f : Format) : V f 0 = 0 := by unfold V; rw [if_pos (binade_pos f)]
theorem V_form (f : Format) (r : Nat) : ∃ m c, V f r = m * 2 ^ c ∧ m < 2 ^ (f.fractionBits + 1) := by
 have hb : f.binade = 2 ^ f.fractionBits := rfl
 unfold V
 split
 ·exact ⟨r, 0, by simp, by rw [Nat.pow_succ]; omega⟩
 ·have := Nat.mod_lt r (binade_pos f)
  exact ⟨_, _, rfl, by rw [Nat.pow_succ]; omega⟩
theorem valN_V {f : Format} {r : Nat} {B : Int} (hB : B ≤ f.leastPlace) : valN f r B = V f r * 2 ^ (f.leastPlace - B).toNat := by
 unfold valN V
 split
 ·rfl
 ·rw [Nat.mul_assoc, ← Nat.pow_add]
  congr 2
  omega
theorem infRung_ge (f : Format) (he : 2 ≤ f.exponentBits) : f.binade ≤ f.infRung := by
 unfold Format.infRung
 have : 2 ^ 2 ≤ 2 ^ f.exponentBits := Nat.pow_le_pow_right (by decide) he
 exact Nat.le_mul_of_pos_left _ (by omega)
theorem rungN_inf {f : Format} {B : Int} (he : 2 ≤ f.exponentBits) (hl : B ≤ f.leastPlace) : rungN f (valN f f.infRung B) B = f.infRung := by
 have hb : f.binade = 2 ^ f.fractionBits := rfl
 have hbp := binade_pos f
 have h4 : 2 ^ 2 ≤ 2 ^ f.exponentBits := Nat.pow_le_pow_right (by decide) he
 unfold valN
 rw [if_neg (by have := infRung_ge f he; omega)]
 have e1 : f.infRung % f.binade = 0 := by unfold Format.infRung; exact Nat.mul_mod_left _ _
 have e2 : f.infRung / f.binade = 2 ^ f.exponentBits - 1 := by unfold Format.infRung; exact Nat.mul_div_cancel _ hbp
 rw [e1, e2, Nat.add_zero]
 generalize hk : 2 ^ f.exponentBits - 1 - 1 = k
 have h0 : f.binade ≠ 0 := by omega
 have h1 : f.binade * 2 ^ (f.leastPlace + (k : Nat) - B).toNat ≠ 0 := Nat.mul_ne_zero h0 (Nat.pos_iff_ne_zero.1 (Nat.two_pow_pos _))
 have hlog : f.binade.log2 = f.fractionBits := by rw [hb]; exact Nat.log2_two_pow
 unfold rungN
 rw [if_neg h1]
 simp only [log2_mul_pow h0, hlog]
 have e : max (B + ((f.fractionBits + (f.leastPlace + (k : Nat) - B).toNat : Nat) : Int) - f.fractionBits) f.leastPlace = f.leastPlace + (k : Nat) := by omega
 rw [e]
 have := rnd_mul f.binade 0 (f.leastPlace + (k : Nat) - B).toNat
 rw [Nat.zero_add, rnd_zero] at this
 rw [this]
 have e3 : (f.leastPlace + (k : Nat) - f.leastPlace).toNat = k := by omega
 rw [e3]
 have e4 : f.infRung = k * f.binade + f.binade := by
  unfold Format.infRung;rw [← Nat.succ_mul]
  congr 1
  omega
 rw [e4, Nat.min_self]
structure FOk (f : Format) : Prop where
 he : 2 ≤ f.exponentBits
 hU : f.leastPlace ≤ 0
 hw : f.infRung < f.signWeight
theorem okS : FOk single := ⟨by decide, by decide, by decide⟩
theorem okD : FOk double := ⟨by decide, by decide, by decide⟩
theorem rungN_le_inf (f : Format) (N : Nat) (B : Int) : rungN f N B ≤ f.infRung := by
 unfold rungN
 split
 ·exact Nat.zero_le _
 ·exact Nat.min_le_right _ _
theorem rung_val {f : Format} (hf : FOk f) {q : Nat} {B : Int} (hB : B ≤ f.leastPlace) (hq : q ≤ f.infRung) : rungN f (V f q * 2 ^ (f.leastPlace - B).toNat) B = q := by
 rw [← valN_V hB]
 rcases Nat.lt_or_eq_of_le hq with h1 | h1
 ·exact rungN_val hB h1
 ·rw [h1]; exact rungN_inf hf.he hB
theorem rung_le {f : Format} (hf : FOk f) {N q : Nat} {B : Int} (hB : B ≤ f.leastPlace) (hq : q ≤ f.infRung) (h : N ≤ V f q * 2 ^ (f.leastPlace - B).toNat) : rungN f N B ≤ q := by
 have := rungN_mono hB h
 rwa [rung_val hf hB hq] at this
theorem le_rung {f : Format} (hf : FOk f) {N q : Nat} {B : Int} (hB : B ≤ f.leastPlace) (hq : q ≤ f.infRung) (h : V f q * 2 ^ (f.leastPlace - B).toNat ≤ N) : q ≤ rungN f N B := by
 have := rungN_mono hB h
 rwa [rung_val hf hB hq] at this
def Rd (f : Format) (N D r : Nat) : Prop := r ≤ f.infRung ∧ (∀ q, q ≤ f.infRung → N ≤ V f q * D → r ≤ q) ∧ (∀ q, q ≤ f.infRung → V f q * D ≤ N → q ≤ r)
theorem Rd.exact {f : Format} {N D r q : Nat} (h : Rd f N D r) (hq : q ≤ f.infRung) (e : N = V f q * D) : r = q :=
 Nat.le_antisymm (h.2.1 q hq (by omega)) (h.2.2 q hq (by omega))
theorem word_rg {f : Format} (hf : FOk f) {s : Bool} {r : Nat} (h : r ≤ f.infRung) : rg f (f.word s r) = r := word_mod (by have := hf.hw; omega)
theorem word_sgn {f : Format} (hf : FOk f) {s : Bool} {r : Nat} (h : r ≤ f.infRung) : sgn f (f.word s r) = s := by
 have hw := hf.hw
 have hp : 0 < f.signWeight := by omega
 unfold sgn Format.word
 cases s
 ·simp [Nat.div_eq_of_lt (show r < f.signWeight by omega)]
 ·simp [Nat.add_div_left r hp, Nat.div_eq_of_lt (show r < f.signWeight by omega)]
theorem word_inj {f : Format} {s : Bool} {a b : Nat} (h : f.word s a = f.word s b) : a = b := by
 unfold Format.word at h
 cases s <;> simp at h <;> omega
theorem nearest_R {f : Format} (s : Bool) (m : Nat) (e : Int) : ∃ r, f.nearest s m e = f.word s r ∧ ∀ B, B ≤ e → B ≤ f.leastPlace → r = rungN f (m * 2 ^ (e - B).toNat) B := by
 refine ⟨rungN f (m * 2 ^ (e - min e f.leastPlace).toNat) (min e f.leastPlace), nearest_rung (by omega) (by omega), fun B h1 h2 => ?_⟩
 exact word_inj ((nearest_rung (neg := s) (mag := m) (by omega) (by omega)).symm.trans (nearest_rung h1 h2))
theorem read_fin {f : Format} {x : Nat} (h : rg f x < f.infRung) : ∃ m e, f.read x = .number (sgn f x) m e ∧ f.leastPlace ≤ e ∧ m * 2 ^ (e - f.leastPlace).toNat = V f (rg f x) ∧ m < 2 ^ (f.fractionBits + 1) ∧ (rg f x ≠ 0 → m ≠ 0) := by
 have hbp := binade_pos f
 have hb : f.binade = 2 ^ f.fractionBits := rfl
 unfold rg at h
 unfold Format.read rg V sgn
 simp only
 split
 ·refine ⟨_, _, rfl, Int.le_refl _, by simp, by rw [Nat.pow_succ]; omega, fun h => h⟩
 ·refine ⟨_, _, rfl, by omega, ?_, ?_, fun _ => by omega⟩
  ·congr 2
   omega
  ·have := Nat.mod_lt (x % f.signWeight) hbp
   rw [Nat.pow_succ]; omega
theorem pow_split {a b c : Int} (h1 : a ≤ b) (h2 : b ≤ c) : 2 ^ (c - a).toNat = 2 ^ (c - b).toNat * 2 ^ (b - a).toNat := by rw [← Nat.pow_add]; congr 1; omega
theorem mul_R {f : Format} (hf : FOk f) {x y : Nat} (hx : rg f x < f.infRung) (hy : rg f y < f.infRung) :
  ∃ r, f.mul x y = some (f.word (sgn f x ^^ sgn f y) r) ∧ Rd f (V f (rg f x) * V f (rg f y)) (2 ^ (-f.leastPlace).toNat) r := by
 obtain ⟨m, i, h1, h2, h3, _⟩ := read_fin hx
 obtain ⟨n, j, h4, h5, h6, _⟩ := read_fin hy
 have hU := hf.hU
 obtain ⟨r, hr, hB⟩ := nearest_R (f := f) (sgn f x ^^ sgn f y) (m * n) (i + j)
 refine ⟨r, by simp [Format.mul, h1, h4, Datum.product, Format.write, hr], ?_⟩
 have hr2 := hB (f.leastPlace + f.leastPlace) (by omega) (by omega)
 have e1 : m * n * 2 ^ (i + j - (f.leastPlace + f.leastPlace)).toNat = V f (rg f x) * V f (rg f y) := by
  rw [← h3, ← h6];have : (i + j - (f.leastPlace + f.leastPlace)).toNat = (i - f.leastPlace).toNat + (j - f.leastPlace).toNat := by omega
  rw [this, Nat.pow_add];simp only [Nat.mul_assoc, Nat.mul_left_comm]
 rw [e1] at hr2
 have e2 : (f.leastPlace - (f.leastPlace + f.leastPlace)).toNat = (-f.leastPlace).toNat := by omega
 refine ⟨by rw [hr2]; exact rungN_le_inf _ _ _, fun q hq h => ?_, fun q hq h => ?_⟩
 ·rw [hr2]; exact rung_le hf (by omega) hq (by rw [e2]; exact h)
 ·rw [hr2]; exact le_rung hf (by omega) hq (by rw [e2]; exact h)
theorem signed_abs (s : Bool) (m k : Nat) : signed s m k = if s = true then -((m * 2 ^ k : Nat) : Int) else ((m * 2 ^ k : Nat) : Int) := by
 unfold signed
 rw [Nat.shiftLeft_eq]
theorem sum_R {f : Format} (hf : FOk f) {x y : Nat} (s t : Bool) {m n : Nat} {i j : Int} (h2 : f.leastPlace ≤ i) (h3 : m * 2 ^ (i - f.leastPlace).toNat = V f x)
  (h5 : f.leastPlace ≤ j) (h6 : n * 2 ^ (j - f.leastPlace).toNat = V f y) :
  ∃ r u, ((Datum.number s m i).sum (.number t n j)).map f.write = some (f.word u r) ∧
   Rd f ((if s = true then -(V f x : Int) else V f x) + (if t = true then -(V f y : Int) else V f y)).natAbs 1 r ∧ (s = false → t = false → u = false) := by
 have hU := hf.hU
 simp only [Datum.sum, Option.map_some, Format.write]
 generalize hu : (if signed s m (i - min i j).toNat + signed t n (j - min i j).toNat = 0 then s && t else decide (signed s m (i - min i j).toNat + signed t n (j - min i j).toNat < 0)) = u
 have hus : s = false → t = false → u = false := by
  intro e1 e2;subst e1 e2;rw [← hu];simp only [signed_abs, Bool.false_eq_true, if_false];generalize m * 2 ^ (i - min i j).toNat = a;generalize n * 2 ^ (j - min i j).toNat = b;split
  ·rfl
  ·simp; omega
 obtain ⟨r, hr, hB⟩ := nearest_R (f := f) u (signed s m (i - min i j).toNat + signed t n (j - min i j).toNat).natAbs (min i j)
 refine ⟨r, u, by rw [hr], ?_, hus⟩
 have hr2 := hB f.leastPlace (by omega) (Int.le_refl _)
 have e1 : (signed s m (i - min i j).toNat + signed t n (j - min i j).toNat).natAbs * 2 ^ (min i j - f.leastPlace).toNat =
   ((if s = true then -(V f x : Int) else V f x) + (if t = true then -(V f y : Int) else V f y)).natAbs := by
  have p1 := pow_split (show f.leastPlace ≤ min i j by omega) (show min i j ≤ i by omega)
  have p2 := pow_split (show f.leastPlace ≤ min i j by omega) (show min i j ≤ j by omega)
  rw [← h3, ← h6, p1, p2];generalize 2 ^ (min i j - f.leastPlace).toNat = w;have : ∀ z : Int, z.natAbs * w = (z * (w : Int)).natAbs := fun z => by rw [Int.natAbs_mul, Int.natAbs_natCast]
  rw [this]
  congr 1
  simp only [signed_abs];have q1 : m * 2 ^ (i - min i j).toNat * w = m * (2 ^ (i - min i j).toNat * w) := Nat.mul_assoc _ _ _;have q2 : n * 2 ^ (j - min i j).toNat * w = n * (2 ^ (j - min i j).toNat * w) := Nat.mul_assoc _ _ _;rw [← q1, ← q2];generalize m * 2 ^ (i - min i j).toNat = a;generalize n * 2 ^ (j - min i j).toNat = b
  cases s <;> cases t <;> simp [Int.add_mul, Int.neg_mul]
 rw [e1] at hr2
 have e2 : (f.leastPlace - f.leastPlace).toNat = 0 := by omega
 refine ⟨by rw [hr2]; exact rungN_le_inf _ _ _, fun q hq h => ?_, fun q hq h => ?_⟩
 ·rw [hr2]; exact rung_le hf (Int.le_refl _) hq (by rw [e2]; simpa using h)
 ·rw [hr2]; exact le_rung hf (Int.le_refl _) hq (by rw [e2]; simpa using h)
theorem div_R {f : Format} (hf : FOk f) {x y : Nat} (hx : rg f x < f.infRung) (hy : rg f y < f.infRung) (hy0 : rg f y ≠ 0) :
  ∃ r, f.div x y = some (f.word (sgn f x ^^ sgn f y) r) ∧ Rd f (V f (rg f x) * 2 ^ (-f.leastPlace).toNat) (V f (rg f y)) r := by
 obtain ⟨m, i, h1, h2, h3, hm, _⟩ := read_fin hx
 obtain ⟨n, j, h4, h5, h6, hn, hn0⟩ := read_fin hy
 have hn0 := hn0 hy0
 have hU := hf.hU
 generalize hmore : f.fractionBits + 2 + n.log2 - m.log2 = more
 generalize hD : m <<< more = D
 obtain ⟨r, hr, hB⟩ := nearest_R (f := f) (sgn f x ^^ sgn f y) (2 * (D / n) + (D % n != 0).toNat) (i - j - more - 1)
 refine ⟨r, by simp [Format.div, h1, h4, Datum.quotient, hn0, Format.write, hmore, hD, hr], ?_⟩
 generalize hP : i - j - (more : Int) - 1 = P at hr hB
 have hr2 := hB (min P f.leastPlace) (by omega) (by omega)
 have hnpos : 0 < n := by omega
 by_cases hm0 : m = 0
 ·have hD0 : D = 0 := by rw [← hD, hm0]; simp
  have hr0 : r = 0 := by rw [hr2, hD0];simp [rungN]
  have hVx : V f (rg f x) = 0 := by rw [← h3, hm0]; simp
  have hVy : 0 < V f (rg f y) := V_pos (by omega)
  refine ⟨by rw [hr0]; exact Nat.zero_le _, fun q _ _ => by rw [hr0]; exact Nat.zero_le _, fun q _ h => ?_⟩
  rw [hVx, Nat.zero_mul] at h;rw [hr0]
  rcases Nat.eq_zero_or_pos q with h0 | h0
  ·omega
  ·have := Nat.mul_pos (V_pos (f := f) h0) hVy
   omega
 generalize hq' : 2 * (D / n) + (D % n != 0).toNat = q' at hr hr2
 have hDm : D = m * 2 ^ more := by rw [← hD, Nat.shiftLeft_eq]
 have hqlo : 2 * (D / n) ≤ q' := by omega
 have key : ∀ q, (∃ K, V f q * 2 ^ (f.leastPlace - min P f.leastPlace).toNat = 2 * K * 2 ^ (P - min P f.leastPlace).toNat ∧
   (V f (rg f x) * 2 ^ (-f.leastPlace).toNat ≤ V f q * V f (rg f y) → D ≤ n * K) ∧ (V f q * V f (rg f y) ≤ V f (rg f x) * 2 ^ (-f.leastPlace).toNat → n * K ≤ D)) ∨
   (f.leastPlace ≤ P ∧ V f q < 2 ^ (f.fractionBits + 1 + (P - f.leastPlace).toNat)) := by
  intro q;have hcmp : ∀ K, V f q * 2 ^ (f.leastPlace - min P f.leastPlace).toNat = 2 * K * 2 ^ (P - min P f.leastPlace).toNat →
    (V f (rg f x) * 2 ^ (-f.leastPlace).toNat) * 2 ^ (f.leastPlace - min P f.leastPlace).toNat * 2 ^ more = D * 2 ^ (i - f.leastPlace).toNat * 2 ^ (-f.leastPlace).toNat * 2 ^ (f.leastPlace - min P f.leastPlace).toNat ∧
    (V f q * V f (rg f y)) * 2 ^ (f.leastPlace - min P f.leastPlace).toNat * 2 ^ more = n * K * 2 ^ (i - f.leastPlace).toNat * 2 ^ (-f.leastPlace).toNat * 2 ^ (f.leastPlace - min P f.leastPlace).toNat := by
   intro K hK;refine ⟨by rw [hDm, ← h3]; simp only [Nat.mul_assoc, Nat.mul_left_comm, Nat.mul_comm], ?_⟩
   have e1 : V f q * V f (rg f y) * 2 ^ (f.leastPlace - min P f.leastPlace).toNat * 2 ^ more = (V f q * 2 ^ (f.leastPlace - min P f.leastPlace).toNat) * V f (rg f y) * 2 ^ more := by simp only [Nat.mul_assoc, Nat.mul_left_comm, Nat.mul_comm]
   rw [e1, hK, ← h6];have e2 : 2 * K * 2 ^ (P - min P f.leastPlace).toNat * (n * 2 ^ (j - f.leastPlace).toNat) * 2 ^ more = n * K * (2 ^ 1 * 2 ^ (P - min P f.leastPlace).toNat * 2 ^ (j - f.leastPlace).toNat * 2 ^ more) := by simp only [Nat.mul_assoc, Nat.mul_left_comm, Nat.mul_comm, Nat.pow_one]
   rw [e2];simp only [Nat.mul_assoc, ← Nat.pow_add]
   congr 3
   omega
  have hpos : 0 < 2 ^ (i - f.leastPlace).toNat * 2 ^ (-f.leastPlace).toNat * 2 ^ (f.leastPlace - min P f.leastPlace).toNat := Nat.mul_pos (Nat.mul_pos (Nat.two_pow_pos _) (Nat.two_pow_pos _)) (Nat.two_pow_pos _);have hfin : ∀ K, V f q * 2 ^ (f.leastPlace - min P f.leastPlace).toNat = 2 * K * 2 ^ (P - min P f.leastPlace).toNat →
    (V f (rg f x) * 2 ^ (-f.leastPlace).toNat ≤ V f q * V f (rg f y) → D ≤ n * K) ∧ (V f q * V f (rg f y) ≤ V f (rg f x) * 2 ^ (-f.leastPlace).toNat → n * K ≤ D) := by
   intro K hK;obtain ⟨c1, c2⟩ := hcmp K hK
   constructor
   ·intro h
    have h' := Nat.mul_le_mul_right (2 ^ more) (Nat.mul_le_mul_right (2 ^ (f.leastPlace - min P f.leastPlace).toNat) h);rw [c1, c2] at h';simp only [Nat.mul_assoc] at h' hpos;rw [← Nat.mul_assoc n K] at h';exact Nat.le_of_mul_le_mul_right h' hpos
   ·intro h
    have h' := Nat.mul_le_mul_right (2 ^ more) (Nat.mul_le_mul_right (2 ^ (f.leastPlace - min P f.leastPlace).toNat) h);rw [c1, c2] at h';simp only [Nat.mul_assoc] at h' hpos;rw [← Nat.mul_assoc n K] at h';exact Nat.le_of_mul_le_mul_right h' hpos
  rcases Int.lt_or_le P f.leastPlace with hlt | hge
  ·
   left
   have e0 : min P f.leastPlace = P := by omega
   have hK : V f q * 2 ^ (f.leastPlace - min P f.leastPlace).toNat = 2 * (V f q * 2 ^ (f.leastPlace - P - 1).toNat) * 2 ^ (P - min P f.leastPlace).toNat := by
    rw [e0];have e1 : (f.leastPlace - P).toNat = (f.leastPlace - P - 1).toNat + 1 := by omega
    have e2 : (P - P).toNat = 0 := by omega
    rw [e1, e2, Nat.pow_succ, Nat.pow_zero, Nat.mul_one, ← Nat.mul_assoc, Nat.mul_comm 2]
   exact ⟨_, hK, hfin _ hK⟩
  ·have e0 : min P f.leastPlace = f.leastPlace := by omega
   obtain ⟨cm, c, hV, hcm⟩ := V_form f q
   by_cases hc : (P - f.leastPlace).toNat + 1 ≤ c
   ·left
    have hK : V f q * 2 ^ (f.leastPlace - min P f.leastPlace).toNat = 2 * (cm * 2 ^ (c - 1 - (P - f.leastPlace).toNat)) * 2 ^ (P - min P f.leastPlace).toNat := by
     rw [e0, hV];have e1 : (f.leastPlace - f.leastPlace).toNat = 0 := by omega
     have e2 : c = 1 + (c - 1 - (P - f.leastPlace).toNat) + (P - f.leastPlace).toNat := by omega
     rw [e1, Nat.pow_zero, Nat.mul_one]
     conv => lhs; rw [e2, Nat.pow_add, Nat.pow_add, Nat.pow_one]
     simp only [Nat.mul_assoc, Nat.mul_left_comm]
    exact ⟨_, hK, hfin _ hK⟩
   ·right
    refine ⟨hge, ?_⟩;rw [hV, Nat.pow_add];have : 2 ^ c ≤ 2 ^ (P - f.leastPlace).toNat := Nat.pow_le_pow_right (by decide) (by omega)
    exact Nat.lt_of_lt_of_le (Nat.mul_lt_mul_of_pos_right hcm (Nat.two_pow_pos _)) (Nat.mul_le_mul_left _ this)
 have hdig : 2 ^ (f.fractionBits + 1) ≤ D / n := by
  have hml : m.log2 ≤ f.fractionBits := by have := (Nat.log2_lt hm0).2 hm; omega
  have h7 : 2 ^ m.log2 ≤ m := Nat.log2_self_le hm0;have h8 : n < 2 ^ (n.log2 + 1) := Nat.lt_log2_self;rw [Nat.le_div_iff_mul_le hnpos, hDm];have h9 : 2 ^ m.log2 * 2 ^ more ≤ m * 2 ^ more := Nat.mul_le_mul_right _ h7;have h10 : 2 ^ (f.fractionBits + 1) * n ≤ 2 ^ (f.fractionBits + 1) * 2 ^ (n.log2 + 1) := Nat.mul_le_mul_left _ (Nat.le_of_lt h8);rw [← Nat.pow_add] at h9 h10;have : m.log2 + more = f.fractionBits + 1 + (n.log2 + 1) := by omega
  rw [this] at h9;omega
 have hbit : (D % n != 0).toNat ≤ 1 := Bool.toNat_le _
 refine ⟨by rw [hr2]; exact rungN_le_inf _ _ _, fun q hq h => ?_, fun q hq h => ?_⟩
 ·rw [hr2]
  refine rung_le hf (by omega) hq ?_
  rcases key q with ⟨K, hK, k1, _⟩ | ⟨hge, hlt⟩
  ·rw [hK]
   refine Nat.mul_le_mul_right _ ?_;have hD2 := k1 h;have : D / n ≤ K := Nat.div_le_of_le_mul hD2
   rcases Nat.lt_or_eq_of_le this with h11 | h11
   ·omega
   ·have hmod : D % n = 0 := by have := Nat.div_add_mod D n;rw [h11] at this;omega
    rw [← hq', hmod, h11];simp
  ·exfalso
   have h' := Nat.mul_le_mul_right (2 ^ more) h;have c1 : V f (rg f x) * 2 ^ (-f.leastPlace).toNat * 2 ^ more = D * 2 ^ ((P - f.leastPlace).toNat + 1) * 2 ^ (j + more - f.leastPlace).toNat := by
    rw [hDm, ← h3];have : m * 2 ^ (i - f.leastPlace).toNat * 2 ^ (-f.leastPlace).toNat * 2 ^ more = m * 2 ^ more * (2 ^ (i - f.leastPlace).toNat * 2 ^ (-f.leastPlace).toNat) := by simp only [Nat.mul_assoc, Nat.mul_left_comm, Nat.mul_comm]
    rw [this, Nat.mul_assoc (m * 2 ^ more)];simp only [← Nat.pow_add]
    congr 2
    omega
   have c2 : V f q * V f (rg f y) * 2 ^ more = n * V f q * 2 ^ (j + more - f.leastPlace).toNat := by
    rw [← h6];have : V f q * (n * 2 ^ (j - f.leastPlace).toNat) * 2 ^ more = n * V f q * (2 ^ (j - f.leastPlace).toNat * 2 ^ more) := by simp only [Nat.mul_assoc, Nat.mul_left_comm]
    rw [this, ← Nat.pow_add]
    congr 2
    omega
   rw [c1, c2] at h';have h'' := Nat.le_of_mul_le_mul_right h' (Nat.two_pow_pos _);have d1 : 2 ^ (f.fractionBits + 1) * n ≤ D := by have := Nat.mul_le_mul_right n hdig;exact Nat.le_trans this (Nat.div_mul_le_self D n)
   have d2 := Nat.mul_le_mul_right (2 ^ ((P - f.leastPlace).toNat + 1)) d1;have d3 : n * V f q ≤ n * 2 ^ (f.fractionBits + 1 + (P - f.leastPlace).toNat) := Nat.mul_le_mul_left _ (Nat.le_of_lt hlt);have d4 : 2 ^ (f.fractionBits + 1) * n * 2 ^ ((P - f.leastPlace).toNat + 1) = 2 * (n * 2 ^ (f.fractionBits + 1 + (P - f.leastPlace).toNat)) := by rw [Nat.pow_succ 2 (P - f.leastPlace).toNat, Nat.pow_add 2 (f.fractionBits + 1)];simp only [Nat.mul_assoc, Nat.mul_left_comm, Nat.mul_comm]
   have d5 : 0 < n * 2 ^ (f.fractionBits + 1 + (P - f.leastPlace).toNat) := Nat.mul_pos hnpos (Nat.two_pow_pos _);omega
 ·rw [hr2]
  refine le_rung hf (by omega) hq ?_
  rcases key q with ⟨K, hK, _, k2⟩ | ⟨hge, hlt⟩
  ·rw [hK]
   refine Nat.mul_le_mul_right _ ?_;have hD2 := k2 h;have : K ≤ D / n := (Nat.le_div_iff_mul_le hnpos).2 (by rw [Nat.mul_comm]; exact hD2)
   omega
  ·have e0 : min P f.leastPlace = f.leastPlace := by omega
   have e1 : (f.leastPlace - f.leastPlace).toNat = 0 := by omega
   rw [e0, e1, Nat.pow_zero, Nat.mul_one];rw [Nat.pow_add] at hlt;have h12 := Nat.mul_le_mul_right (2 ^ (P - f.leastPlace).toNat) hdig;have h13 : D / n * 2 ^ (P - f.leastPlace).toNat ≤ q' * 2 ^ (P - f.leastPlace).toNat := Nat.mul_le_mul_right _ (by omega)
   omega
end Vs
