/-
  Widening and narrowing by rungs; halves; the exponential function is narrowed without overflow.
-/
import Derived.Test.YthgocnlbnghbbaaMf4
import Derived.Test.YthgocnlbnghbbaaD
namespace Vs
open Go Ieee

/-- One unit of single precision in units of double precision. -/
def cw : Nat := 2 ^ 925
theorem lpD : FloatKind.f64.format.leastPlace = -1074 := by decide
theorem lpS : FloatKind.f32.format.leastPlace = -149 := by decide
theorem cw_eq : 2 ^ (single.leastPlace - -1074).toNat = cw := by decide +kernel

theorem narrow_R {y c : Nat} (hy : rk .f64 y < inf .f64) (hc : c < inf .f32) (h : Vk .f64 (rk .f64 y) ≤ Vk .f32 c * cw) : ∃ z, f2f .f64 .f32 y = some z ∧ rk .f32 z ≤ c := by
  obtain ⟨m, e, h1, h2, h3, _⟩ := read_fin hy
  obtain ⟨r, hr, hB⟩ := nearest_R (f := single) (sgn double y) m e
  have hr2 := hB (-1074) (by rw [lpD] at h2; exact h2) (by decide)
  rw [lpD] at h3
  have h3' : m * 2 ^ (e - -1074).toNat = V double (rk .f64 y) := h3
  rw [h3'] at hr2
  have hle : r ≤ c := by
    rw [hr2]
    exact rung_le okS (by decide) (Nat.le_of_lt hc) (by rw [cw_eq]; exact h)
  have hri : r < single.infRung := Nat.lt_of_le_of_lt hle hc
  have hd : FloatKind.f64.decode y = .number (sgn double y) m e := h1
  have hen : FloatKind.f32.encode (.number (sgn double y) m e) = single.word (sgn double y) r := hr
  refine ⟨single.word (sgn double y) r, ?_, ?_⟩
  · unfold f2f
    rw [if_neg (by decide), hd]
    simp only [hen]
    have h5 : (FloatKind.f32.decode (single.word (sgn double y) r)).isInfinity = false := read_word okS.hw hri
    rw [h5]
    simp only [Bool.false_eq_true, if_false]
    exact congrArg some (canon_word (k := .f32) (Nat.le_of_lt hri))
  · show rg single _ ≤ c
    rw [word_rg okS (Nat.le_of_lt hri)]
    exact hle

theorem wide_word {x : Nat} (hx : rk .f32 x < inf .f32) : ∃ r, wide x = double.word (sgn single x) r ∧ r < inf .f64 ∧ (∀ q, q ≤ inf .f64 → Vk .f32 (rk .f32 x) * cw ≤ Vk .f64 q → r ≤ q) ∧ (∀ q, q ≤ inf .f64 → Vk .f64 q ≤ Vk .f32 (rk .f32 x) * cw → q ≤ r) := by
  obtain ⟨m, e, h1, h2, h3, _⟩ := read_fin hx
  have hd : FloatKind.f32.decode x = .number (sgn single x) m e := h1
  obtain ⟨a, b, c⟩ := read_single (show single.read x = .number (sgn single x) m e from h1)
  obtain ⟨r', g1, g2⟩ := nearest_wide (s := sgn single x) a b c
  obtain ⟨r, hr, hB⟩ := nearest_R (f := double) (sgn single x) m e
  have hrr : r' = r := word_inj (g1.symm.trans hr)
  subst hrr
  have hr2 := hB (-1074) (by omega) (by decide)
  rw [lpS] at h3
  have h3' : m * 2 ^ (e - -149).toNat = V single (rk .f32 x) := h3
  have e1 : m * 2 ^ (e - -1074).toNat = V single (rk .f32 x) * cw := by
    rw [← h3', ← cw_eq, Nat.mul_assoc, ← Nat.pow_add]
    congr 2
    have : single.leastPlace = -149 := lpS
    omega
  rw [e1] at hr2
  have e2 : (double.leastPlace - -1074).toNat = 0 := by decide
  have hx2 := f2f_wide x
  unfold f2f at hx2
  rw [if_neg (by decide), hd] at hx2
  have hen : FloatKind.f64.encode (.number (sgn single x) m e) = double.word (sgn single x) r' := hr
  simp only [hen] at hx2
  have h5 : (FloatKind.f64.decode (double.word (sgn single x) r')).isInfinity = false := read_word okD.hw g2
  rw [h5] at hx2
  simp only [Bool.false_eq_true, if_false, Option.some.injEq] at hx2
  refine ⟨r', by rw [← hx2]; exact canon_word (k := .f64) (Nat.le_of_lt g2), g2, fun q hq h => ?_, fun q hq h => ?_⟩
  · rw [hr2]; exact rung_le okD (by decide) hq (by rw [e2, Nat.pow_zero, Nat.mul_one]; exact h)
  · rw [hr2]; exact le_rung okD (by decide) hq (by rw [e2, Nat.pow_zero, Nat.mul_one]; exact h)
theorem wide_le {x c c' : Nat} (hx : rk .f32 x ≤ c) (h : c < inf .f32 ∧ c' ≤ inf .f64 ∧ Vk .f32 c * cw ≤ Vk .f64 c') : rk .f64 (wide x) ≤ c' := by
  obtain ⟨h1, h2, h3⟩ := h
  obtain ⟨r, e, hr, hle, _⟩ := wide_word (x := x) (by omega)
  rw [e]
  show rg double _ ≤ c'
  rw [word_rg okD (Nat.le_of_lt hr)]
  exact hle c' h2 (Nat.le_trans (Nat.mul_le_mul_right _ (V_mono _ hx)) h3)

theorem rk_neg {k : FloatKind} {x : Nat} (hx : rk k x < inf k) : rk k (fneg k x) = rk k x := by
  have e : rk k (Op.negFloat k x) = rk k x := by
    unfold rk rg Op.negFloat Format.signWeight
    rw [Nat.xor_mod_two_pow, Nat.mod_self, Nat.xor_zero]
  unfold fneg canon
  rw [isnan_R (by rw [e]; exact hx)]
  exact e

theorem sv_zero (k : FloatKind) : sv k 0 = 0 := by
  have : rk k 0 = 0 := Nat.zero_mod _
  unfold sv
  simp only [this, Vk, V_zero]
  split <;> rfl
theorem rk0 (k : FloatKind) : rk k 0 < inf k := by cases k <;> decide
theorem sv_pos {k : FloatKind} {x : Nat} (h : 0 < sv k x) : sgn k.format x = false ∧ 0 < rk k x ∧ sv k x = Vk k (rk k x) := by
  unfold sv at h ⊢
  split at h
  · omega
  · rename_i hs
    refine ⟨by simpa using hs, ?_, by rw [if_neg hs]⟩
    rcases Nat.eq_zero_or_pos (rk k x) with h0 | h0
    · rw [h0] at h
      simp only [Vk, V_zero] at h
      omega
    · exact h0
theorem fin_R {x : Nat} (h : finP x = true) : rk .f32 x < inf .f32 := by
  unfold finP fsub Format.sub at h
  cases hr : single.read x with
  | number s m e => exact read_num okS hr
  | infinity s =>
    have hr' : FloatKind.f32.format.read x = .infinity s := hr
    rw [hr'] at h
    cases s <;> exact absurd h (by decide)
  | nan s t =>
    have hr' : FloatKind.f32.format.read x = .nan s t := hr
    rw [hr'] at h
    exact absurd h (by simp only [Datum.sum, Option.map_none]; decide)
theorem over_R {x : Nat} (h : overP x = true) : rk .f32 x < inf .f32 ∧ 0 < sv .f32 x := by
  unfold overP at h
  simp only [Bool.and_eq_true] at h
  have h1 := fin_R h.1
  refine ⟨h1, ?_⟩
  have h2 := h.2
  rw [fgt_R h1 (rk0 _), sv_zero] at h2
  simpa using h2
theorem R_over {x : Nat} (h1 : rk .f32 x < inf .f32) (h2 : 0 < sv .f32 x) : overP x = true := by
  unfold overP finP
  rw [fgt_R h1 (rk0 _), sv_zero]
  obtain ⟨r, u, e, hr⟩ := fsub_R h1 h1
  have hr0 : r = 0 := hr.exact (q := 0) (Nat.zero_le _) (by simp [V_zero])
  subst hr0
  rw [e, feq_R (by rw [rk_word (Nat.zero_le _)]; decide) (rk0 _), sv_zero]
  have : sv .f32 (FloatKind.f32.format.word u 0) = 0 := by
    unfold sv
    rw [rk_word (Nat.zero_le _)]
    simp only [Vk, V_zero]
    split <;> rfl
  simp [this, h2]

/-- Dividing by two is multiplying by a half. -/
theorem half_div (x : Nat) : fdiv .f32 x 1073741824 = fmul .f32 1056964608 x := by
  have r1 : FloatKind.f32.format.read 1073741824 = .number false 8388608 (-22) := by decide
  have r2 : FloatKind.f32.format.read 1056964608 = .number false 8388608 (-24) := by decide
  have hfb : FloatKind.f32.format.fractionBits = 23 := rfl
  have hl : Nat.log2 8388608 = 23 := by decide
  unfold fdiv fmul Format.div Format.mul
  rw [r1, r2, hfb]
  cases hr : FloatKind.f32.format.read x with
  | nan s t => rfl
  | infinity s => cases s <;> rfl
  | number s m i =>
    obtain ⟨hm, _, _⟩ := read_single (show single.read x = .number s m i from hr)
    simp only [Datum.quotient, Datum.product]
    rw [if_neg (by decide)]
    simp only [Option.map_some, Format.write, hl, Bool.xor_false, Bool.false_xor]
    congr 2
    by_cases h0 : m = 0
    · subst h0
      simp [Format.nearest]
    · have hml : m.log2 < 24 := (Nat.log2_lt h0).2 hm
      generalize hmore : 23 + 2 + 23 - m.log2 = more
      have e1 : m <<< more = m * 2 ^ (more - 23) * 8388608 := by
        rw [Nat.shiftLeft_eq, Nat.mul_assoc, show (8388608 : Nat) = 2 ^ 23 by decide, ← Nat.pow_add]
        congr 2
        omega
      rw [e1, Nat.mul_div_cancel _ (by decide), Nat.mul_mod_left]
      obtain ⟨r, hr1, hB1⟩ := nearest_R (f := FloatKind.f32.format) s (2 * (m * 2 ^ (more - 23)) + ((0 : Nat) != 0).toNat) (i - -22 - more - 1)
      obtain ⟨r', hr2, hB2⟩ := nearest_R (f := FloatKind.f32.format) s (8388608 * m) (-24 + i)
      rw [hr1, hr2]
      have hb1 := hB1 (min (i - -22 - more - 1) (min (-24 + i) FloatKind.f32.format.leastPlace)) (by omega) (by omega)
      have hb2 := hB2 (min (i - -22 - more - 1) (min (-24 + i) FloatKind.f32.format.leastPlace)) (by omega) (by omega)
      rw [hb1, hb2]
      congr 2
      generalize hBB : min (i - -22 - (more : Int) - 1) (min (-24 + i) FloatKind.f32.format.leastPlace) = B
      have e2 : 2 * (m * 2 ^ (more - 23)) + ((0 : Nat) != 0).toNat = m * 2 ^ (more - 23 + 1) := by
        rw [Nat.pow_succ]
        simp
        rw [Nat.mul_comm 2, Nat.mul_assoc]
      rw [e2, show (8388608 : Nat) = 2 ^ 23 by decide, Nat.mul_comm (2 ^ 23) m, Nat.mul_assoc, Nat.mul_assoc, ← Nat.pow_add, ← Nat.pow_add]
      congr 2
      omega

/-! ### The exponential function -/
def hornE (t : Nat) : Nat → Nat → Nat
  | 0, p => p
  | n + 1, p => hornE t n (fadd .f64 4607182418800017408 (fdiv .f64 (fmul .f64 t p) (i2f .f64 ((n + 1 : Nat) : Int))))
def sqE : Nat → Nat → Nat
  | 0, p => p
  | n + 1, p => sqE n (fmul .f64 p p)
def expW (x : Nat) : Nat :=
  if fgt .f64 x 4641240890982006784 = true then 9218868437227405312 else if flt .f64 x 13864612927836782592 = true then 0 else sqE 8 (hornE (fdiv .f64 x 4643211215818981376) 12 4607182418800017408)

theorem ks_R : ∀ n, n < 12 → 4607182418800017408 ≤ rk .f64 (i2f .f64 ((n + 1 : Nat) : Int)) ∧ rk .f64 (i2f .f64 ((n + 1 : Nat) : Int)) < inf .f64 := by decide +kernel
theorem horn_R {t : Nat} (ht : rk .f64 t ≤ 4594234569871327232) : ∀ n p, n ≤ 12 → rk .f64 p ≤ 4608026843730149376 → rk .f64 (hornE t n p) ≤ 4608026843730149376
  | 0, p, _, hp => hp
  | n + 1, p, hn, hp => by
    obtain ⟨k1, k2⟩ := ks_R n (by omega)
    refine horn_R ht n _ (by omega) ?_
    have h1 : rk .f64 (fmul .f64 t p) ≤ 4595292915783759299 := mg_mul ht hp (by decide +kernel)
    have h2 : rk .f64 (fdiv .f64 (fmul .f64 t p) (i2f .f64 ((n + 1 : Nat) : Int))) ≤ 4595292915783759299 := mg_div h1 k1 k2 (by decide +kernel)
    exact mg_add (a := 4607182418800017408) (by decide) h2 (by decide +kernel)

theorem sq_R {p : Nat} (hp : rk .f64 p ≤ 4608026843730149376) : rk .f64 (sqE 8 p) ≤ 4958463189734916096 := by
  have h1 : rk .f64 (fmul .f64 p p) ≤ 4609434218613702656 := mg_mul hp hp (by decide +kernel)
  unfold sqE
  generalize fmul .f64 p p = p at *
  have h2 : rk .f64 (fmul .f64 p p) ≤ 4612248968380809216 := mg_mul h1 h1 (by decide +kernel)
  unfold sqE
  generalize fmul .f64 p p = p at *
  have h3 : rk .f64 (fmul .f64 p p) ≤ 4617596992938311680 := mg_mul h2 h2 (by decide +kernel)
  unfold sqE
  generalize fmul .f64 p p = p at *
  have h4 : rk .f64 (fmul .f64 p p) ≤ 4628574517030027264 := mg_mul h3 h3 (by decide +kernel)
  unfold sqE
  generalize fmul .f64 p p = p at *
  have h5 : rk .f64 (fmul .f64 p p) ≤ 4650107352748392448 := mg_mul h4 h4 (by decide +kernel)
  unfold sqE
  generalize fmul .f64 p p = p at *
  have h6 : rk .f64 (fmul .f64 p p) ≤ 4693527066929266688 := mg_mul h5 h5 (by decide +kernel)
  unfold sqE
  generalize fmul .f64 p p = p at *
  have h7 : rk .f64 (fmul .f64 p p) ≤ 4782822804267466752 := mg_mul h6 h6 (by decide +kernel)
  unfold sqE
  generalize fmul .f64 p p = p at *
  have h8 : rk .f64 (fmul .f64 p p) ≤ 4958463189734916096 := mg_mul h7 h7 (by decide +kernel)
  exact h8
/-- ExpNumber. -/
def expO (x : Nat) : Option Nat := f2f .f64 .f32 (expW (wide x))
theorem exp_R {x : Nat} (hx : rk .f32 x ≤ 1108344832) : ∃ z, expO x = some z ∧ rk .f32 z ≤ 1719664640 := by
  have h1 : rk .f64 (wide x) ≤ 4630263366890291200 := wide_le hx (by decide +kernel)
  have hi : rk .f64 (wide x) < inf .f64 := Nat.lt_of_le_of_lt h1 (by decide)
  have h2 : rk .f64 (fdiv .f64 (wide x) 4643211215818981376) ≤ 4594234569871327232 := mg_div (b := 4643211215818981376) h1 (by decide) (by decide) (by decide +kernel)
  have h3 : rk .f64 (expW (wide x)) ≤ 4958463189734916096 := by
    unfold expW
    split
    · rename_i hg
      rw [fgt_R hi (by decide)] at hg
      exfalso
      have ha := sv_abs .f64 (wide x)
      have hv := V_mono double h1
      have hb : V double 4630263366890291200 < V double 4641240890982006784 := V_strict _ (by decide)
      have hs : sv .f64 4641240890982006784 = (V double 4641240890982006784 : Int) := by
        have a1 : sgn FloatKind.f64.format 4641240890982006784 = false := by decide
        have a2 : rk .f64 4641240890982006784 = 4641240890982006784 := by decide
        unfold sv
        rw [a1, a2]
        rfl
      rw [hs] at hg
      have ha' : (sv .f64 (wide x)).natAbs = V double (rk .f64 (wide x)) := ha
      have hv' : V double (rk .f64 (wide x)) ≤ V double 4630263366890291200 := hv
      simp only [decide_eq_true_eq] at hg
      omega
    · split
      · exact Nat.le_trans (by decide) (Nat.zero_le _)
      · exact sq_R (horn_R h2 12 _ (Nat.le_refl _) (by decide))
  exact narrow_R (Nat.lt_of_le_of_lt h3 (by decide)) (by decide) (Nat.le_trans (V_mono double h3) (by decide +kernel))

/-! ### The neck of a film -/
def coshO (x : Nat) : Option Nat := (expO x).bind fun a => (expO (fneg .f32 x)).map fun b => fmul .f32 1056964608 (fadd .f32 a b)
def sinhO (x : Nat) : Option Nat := (expO x).bind fun a => (expO (fneg .f32 x)).map fun b => fmul .f32 1056964608 (fsub .f32 a b)
theorem cosh_R {x : Nat} (hx : rk .f32 x ≤ 1108344832) : ∃ z, coshO x = some z := by
  obtain ⟨a, ha, _⟩ := exp_R hx
  obtain ⟨b, hb, _⟩ := exp_R (x := fneg .f32 x) (by rw [rk_neg (Nat.lt_of_le_of_lt hx (by decide))]; exact hx)
  exact ⟨_, by rw [coshO, ha, hb]; rfl⟩
def widthO (n z : Nat) : Option Nat := (coshO (fdiv .f32 z n)).map fun c => fmul .f32 n c
def areaO (n g : Nat) : Option Nat := (sinhO (fdiv .f32 g n)).map fun s => fmul .f32 (fmul .f32 1078530011 n) (fadd .f32 g (fmul .f32 n s))
/-- Whether a film with this neck is not wider than the rings. -/
def fitsO (r half c : Nat) : Option Bool := if overP c = true then (widthO c half).map fun w => fle .f32 w r else some false
def midP (lo hi : Nat) : Nat := fmul .f32 1056964608 (fadd .f32 lo hi)
def neckGo (r half : Nat) : Nat → Nat → Nat → Option Nat
  | 0, lo, _ => some lo
  | n + 1, lo, hi => (fitsO r half (midP lo hi)).bind fun b => if b = true then neckGo r half n (midP lo hi) hi else neckGo r half n lo (midP lo hi)
def halfP (g : Nat) : Nat := fmul .f32 1056964608 g
def lowP (g : Nat) : Nat := fdiv .f32 (halfP g) 1067028242
def neckO (r g : Nat) : Option (Option Nat) :=
  (fitsO r (halfP g) (lowP g)).bind fun b => if (b && !fgt .f32 (lowP g) r) = true then (neckGo r (halfP g) 30 (lowP g) r).map some else some none

/-- A positive rung, halved. -/
def hv (f : Format) (r : Nat) : Nat := if r < 2 * f.binade then r / 2 else r - f.binade
theorem V_low {f : Format} {r : Nat} (h : r < 2 * f.binade) : V f r = r := by
  unfold V
  split
  · rfl
  · have e1 : r / f.binade = 1 := by
      have := binade_pos f
      rw [Nat.div_eq_iff (by omega)]
      omega
    have e2 : r % f.binade = r - f.binade := by
      have := Nat.div_add_mod r f.binade
      rw [e1] at this
      omega
    rw [e1, e2]
    simp
    omega
theorem V_hv (f : Format) (r : Nat) : V f (hv f r) = V f r / 2 := by
  have hbp := binade_pos f
  unfold hv
  split
  · rename_i h
    rw [V_low h, V_low (by omega)]
  · rename_i h
    have hdm := Nat.div_add_mod r f.binade
    have hm := Nat.mod_lt r hbp
    have hq : 2 ≤ r / f.binade := (Nat.le_div_iff_mul_le hbp).2 (by omega)
    unfold V
    rw [if_neg (by omega), if_neg (by omega)]
    generalize r / f.binade = q at *
    generalize r % f.binade = m at *
    have e0 : r - f.binade = f.binade * (q - 1) + m := by
      have : f.binade * q = f.binade * (q - 1) + f.binade := by
        rw [← Nat.mul_succ]
        congr 1
        omega
      omega
    have e1 : (r - f.binade) / f.binade = q - 1 := by rw [e0, Nat.mul_add_div hbp, Nat.div_eq_of_lt hm, Nat.add_zero]
    have e2 : (r - f.binade) % f.binade = m := by rw [e0, Nat.mul_add_mod, Nat.mod_eq_of_lt hm]
    rw [e1, e2]
    have e3 : q - 1 = (q - 1 - 1) + 1 := by omega
    conv => rhs; rw [e3, Nat.pow_succ, ← Nat.mul_assoc]
    rw [Nat.mul_div_cancel _ (by decide)]
/-- A positive rung, doubled. -/
theorem V_dbl (f : Format) (r : Nat) : ∃ q, V f q = 2 * V f r := by
  have hbp := binade_pos f
  by_cases h : r < f.binade
  · exact ⟨2 * r, by rw [V_low (by omega), V_low (by omega)]⟩
  · refine ⟨r + f.binade, ?_⟩
    have h2 := V_hv f (r + f.binade)
    have e : hv f (r + f.binade) = r := by unfold hv; rw [if_neg (by omega)]; omega
    rw [e] at h2
    have hq : 1 ≤ r / f.binade := (Nat.le_div_iff_mul_le hbp).2 (by omega)
    have e2 : V f (r + f.binade) % 2 = 0 := by
      unfold V
      rw [if_neg (by omega), Nat.add_div_right _ hbp]
      have e3 : r / f.binade + 1 - 1 = (r / f.binade - 1) + 1 := by omega
      rw [e3, Nat.pow_succ, ← Nat.mul_assoc, Nat.mul_mod_left]
    omega

/-! Single precision: words of positive numbers are rungs. -/
abbrev K : FloatKind := .f32
abbrev VS (r : Nat) : Nat := V single r
theorem infS : single.infRung = 2139095040 := by decide
theorem swS : single.signWeight = 2147483648 := by decide
theorem rk_small {r : Nat} (h : r ≤ 2139095040) : rk .f32 r = r := by
  show r % single.signWeight = r
  rw [swS]
  exact Nat.mod_eq_of_lt (by omega)
theorem sgn_small {r : Nat} (h : r ≤ 2139095040) : sgn single r = false := by
  unfold sgn
  rw [swS, Nat.div_eq_of_lt (by omega)]
  rfl
theorem sv_small {r : Nat} (h : r ≤ 2139095040) : sv .f32 r = (VS r : Int) := by
  have a1 : sgn FloatKind.f32.format r = false := sgn_small h
  unfold sv
  rw [a1, rk_small h]
  rfl
theorem over_small {r : Nat} (h0 : 0 < r) (h : r < 2139095040) : overP r = true := by
  refine R_over (by rw [rk_small (by omega)]; exact (by rw [show inf .f32 = 2139095040 from infS]; exact h)) ?_
  rw [sv_small (by omega)]
  have := V_pos (f := single) h0
  simp only [VS]
  omega
theorem dnS : dn .f32 = 2 * VS 1056964608 := by decide +kernel
theorem half_R {g : Nat} (hg : overP g = true) : ∃ h, halfP g = h ∧ h < 2139095040 ∧ VS h ≤ VS (rk .f32 g) ∧ VS (rk .f32 g) ≤ 2 * VS h + 1 := by
  obtain ⟨h1, h2⟩ := over_R hg
  obtain ⟨h3, _, _⟩ := sv_pos h2
  obtain ⟨h, e, hr⟩ := fmul_R (k := .f32) (x := 1056964608) (y := g) (by decide) h1
  have e1 : sgn FloatKind.f32.format 1056964608 = false := by decide
  have e2 : rk .f32 1056964608 = 1056964608 := by decide
  rw [e1, h3] at e
  rw [e2, dnS] at hr
  have hi : rk .f32 g < 2139095040 := by rw [← infS]; exact h1
  have hle : h ≤ rk .f32 g := hr.2.1 _ (Nat.le_of_lt h1) (by
    have : Vk .f32 1056964608 * Vk .f32 (rk .f32 g) ≤ 2 * (Vk .f32 1056964608 * Vk .f32 (rk .f32 g)) := by omega
    refine Nat.le_trans this (Nat.le_of_eq ?_)
    show 2 * (VS 1056964608 * VS (rk .f32 g)) = VS (rk .f32 g) * (2 * VS 1056964608)
    ac_rfl)
  refine ⟨h, e, by omega, V_mono _ hle, ?_⟩
  have hq : hv single (rk .f32 g) ≤ h := hr.2.2 _ (by
      show hv single (rk .f32 g) ≤ single.infRung
      have : hv single (rk .f32 g) ≤ rk .f32 g := V_le (f := single) (by rw [V_hv]; omega)
      rw [infS]; omega) (by
    have h5 := V_hv single (rk .f32 g)
    have h6 : 2 * V single (hv single (rk .f32 g)) ≤ V single (rk .f32 g) := by omega
    have := Nat.mul_le_mul_left (VS 1056964608) h6
    simp only [Vk, VS] at *
    have e9 : V single (hv single (rk .f32 g)) * (2 * V single 1056964608) = V single 1056964608 * (2 * V single (hv single (rk .f32 g))) := by ac_rfl
    exact Nat.le_trans (Nat.le_of_eq e9) this)
  have := V_mono single hq
  rw [V_hv] at this
  simp only [VS]
  omega

theorem low_R {h : Nat} (h0 : 0 < h) (hh : h < 2139095040) : ∃ l, fdiv .f32 h 1067028242 = l ∧ 0 < l ∧ l < 2139095040 ∧ VS h ≤ 3 * VS l := by
  by_cases h1 : h = 1
  · subst h1
    exact ⟨1, by decide, by decide, by decide, by decide⟩
  have hk : rk .f32 h = h := rk_small (by omega)
  have e2 : rk .f32 1067028242 = 1067028242 := by decide
  obtain ⟨l, e, hr⟩ := fdiv_R (k := .f32) (x := h) (y := 1067028242) (by rw [hk, show inf .f32 = 2139095040 from infS]; exact hh) (by decide) (by decide)
  have e1 : sgn FloatKind.f32.format 1067028242 = false := by decide
  have e3 : sgn FloatKind.f32.format h = false := sgn_small (by omega)
  rw [e1, e3] at e
  rw [hk, e2] at hr
  have c1 : dn .f32 ≤ VS 1067028242 := by decide +kernel
  have c2 : VS 1067028242 ≤ 2 * dn .f32 := by decide +kernel
  have hle : l ≤ h := hr.2.1 h (by show h ≤ single.infRung; rw [infS]; omega) (Nat.mul_le_mul_left _ c1)
  have hge : hv single h ≤ l := hr.2.2 _ (by
      show hv single h ≤ single.infRung
      have : hv single h ≤ h := V_le (f := single) (by rw [V_hv]; omega)
      rw [infS]; omega) (by
    have h5 := V_hv single h
    have h6 : 2 * V single (hv single h) ≤ V single h := by omega
    have h7 := Nat.mul_le_mul_left (V single (hv single h)) c2
    have h8 := Nat.mul_le_mul_right (dn .f32) h6
    simp only [Vk, VS] at *
    refine Nat.le_trans h7 ?_
    rw [← Nat.mul_assoc, Nat.mul_comm _ 2]
    exact h8)
  have h9 := V_mono single hge
  rw [V_hv] at h9
  have h10 : 2 ≤ V single h := by
    have := V_mono single (show 2 ≤ h by omega)
    have : V single 2 = 2 := by decide
    omega
  refine ⟨l, e, ?_, by omega, by simp only [VS]; omega⟩
  rcases Nat.eq_zero_or_pos l with h11 | h11
  · rw [h11, V_zero] at h9
    omega
  · exact h11

theorem mid_R {lo hi : Nat} (h0 : 0 < lo) (h1 : lo < 2139095040) (h2 : lo ≤ hi) (h3 : hi ≤ 2139095040) : ∃ c, midP lo hi = c ∧ lo ≤ c ∧ c ≤ 2139095040 ∧ (c < 2139095040 → c ≤ hi) := by
  have hinf : fmul .f32 1056964608 2139095040 = 2139095040 := by decide
  have hlo : rk .f32 lo = lo := rk_small (by omega)
  have hlf : rk .f32 lo < inf .f32 := by rw [hlo, show inf .f32 = 2139095040 from infS]; exact h1
  have hsl : sgn FloatKind.f32.format lo = false := sgn_small (by omega)
  unfold midP
  rcases Nat.lt_or_eq_of_le h3 with h4 | h4
  · have hhi : rk .f32 hi = hi := rk_small (by omega)
    have hsh : sgn FloatKind.f32.format hi = false := sgn_small (by omega)
    obtain ⟨s, u, e, hr, hu⟩ := fadd_R (k := .f32) (x := lo) (y := hi) hlf (by rw [hhi, show inf .f32 = 2139095040 from infS]; exact h4)
    rw [hu hsl hsh] at e
    have e' : fadd .f32 lo hi = s := e
    rw [e']
    rw [sv_small (by omega), sv_small (by omega)] at hr
    have hs : s ≤ 2139095040 := by rw [← infS]; exact hr.1
    rcases Nat.lt_or_eq_of_le hs with h5 | h5
    · obtain ⟨c, e2, hc⟩ := fmul_R (k := .f32) (x := 1056964608) (y := s) (by decide) (by rw [rk_small hs, show inf .f32 = 2139095040 from infS]; exact h5)
      have e3 : sgn FloatKind.f32.format 1056964608 = false := by decide
      have e4 : rk .f32 1056964608 = 1056964608 := by decide
      have e5 : sgn FloatKind.f32.format s = false := sgn_small hs
      rw [e3, e5] at e2
      rw [e4, rk_small hs, dnS] at hc
      refine ⟨c, e2, hc.2.2 lo (by show lo ≤ single.infRung; rw [infS]; omega) ?_, by rw [← infS]; exact hc.1, fun _ => hc.2.1 hi (by show hi ≤ single.infRung; rw [infS]; omega) ?_⟩
      rotate_left
      · obtain ⟨q, hq⟩ := V_dbl single hi
        have hm := V_mono single h2
        have hsum : ((VS lo : Int) + (VS hi : Int)).natAbs = VS lo + VS hi := by omega
        rw [hsum] at hr
        have hV : VS s ≤ 2 * VS hi := by
          rcases Nat.lt_or_ge single.infRung q with h6 | h6
          · have h7 := V_mono single (Nat.le_of_lt (Nat.lt_of_le_of_lt hr.1 h6))
            simp only [VS] at *
            omega
          · have h7 := hr.2.1 q h6 (by simp only [VS] at *; rw [Nat.mul_one]; show _ ≤ V single q; omega)
            have h8 := V_mono single h7
            simp only [VS] at *
            omega
        have h9 := Nat.mul_le_mul_left (VS 1056964608) hV
        simp only [Vk, VS] at *
        refine Nat.le_trans h9 (Nat.le_of_eq ?_)
        show V single 1056964608 * (2 * V single hi) = V single hi * (2 * V single 1056964608)
        ac_rfl
      -- twice the lower end is at most the sum
      obtain ⟨q, hq⟩ := V_dbl single lo
      have hm := V_mono single h2
      have hsum : ((VS lo : Int) + (VS hi : Int)).natAbs = VS lo + VS hi := by omega
      rw [hsum] at hr
      have hV : 2 * VS lo ≤ VS s := by
        rcases Nat.lt_or_ge single.infRung q with h6 | h6
        · exfalso
          have h7 := V_mono single (Nat.le_of_lt h6)
          have := hr.2.2 single.infRung (Nat.le_refl _) (by simp only [VS] at *; rw [Nat.mul_one]; show V single single.infRung ≤ _; omega)
          rw [infS] at this
          omega
        · have h7 := hr.2.2 q h6 (by simp only [VS] at *; rw [Nat.mul_one]; show V single q ≤ _; omega)
          have h8 := V_mono single h7
          simp only [VS] at *
          omega
      have h9 := Nat.mul_le_mul_left (VS 1056964608) hV
      simp only [Vk, VS] at *
      refine Nat.le_trans (Nat.le_of_eq ?_) h9
      show V single lo * (2 * V single 1056964608) = V single 1056964608 * (2 * V single lo)
      ac_rfl
    · rw [h5]
      exact ⟨_, hinf, by omega, Nat.le_refl _, fun h => by omega⟩
  · rw [h4]
    obtain ⟨m, i, r1, _⟩ := read_fin hlf
    have e : fadd .f32 lo 2139095040 = 2139095040 := by
      unfold fadd Format.add
      have r2 : FloatKind.f32.format.read 2139095040 = .infinity false := by decide
      rw [r1, r2]
      rfl
    rw [e]
    exact ⟨_, hinf, by omega, Nat.le_refl _, fun h => by omega⟩

theorem read_rk {x : Nat} (h : sgn single x = false) : single.read x = single.read (rk .f32 x) := by
  have e1 : rk .f32 x % single.signWeight = x % single.signWeight := Nat.mod_mod _ _
  have e2 : (rk .f32 x / single.signWeight % 2 == 1) = (x / single.signWeight % 2 == 1) := by
    have : rk .f32 x / single.signWeight = 0 := Nat.div_eq_of_lt (Nat.mod_lt _ (by decide))
    rw [this]
    exact h.symm
  unfold Format.read
  rw [e1, e2]
theorem mid_rk (lo : Nat) {hi : Nat} (h : sgn single hi = false) : midP lo hi = midP lo (rk .f32 hi) := by
  unfold midP fadd Format.add
  have : FloatKind.f32.format.read hi = FloatKind.f32.format.read (rk .f32 hi) := read_rk h
  rw [this]
/-- What stands over the neck is not far. -/
theorem ratio_R {h c q b : Nat} (hc0 : 0 < c) (hc : c < 2139095040) (hh : rk .f32 h < inf .f32) (hv : VS (rk .f32 h) ≤ b * VS c) (hq : q ≤ 2139095040 ∧ b * dn .f32 ≤ VS q) : rk .f32 (fdiv .f32 h c) ≤ q := by
  have hk : rk .f32 c = c := rk_small (by omega)
  obtain ⟨r, e, hr⟩ := fdiv_R (k := .f32) (x := h) (y := c) hh (by rw [hk, show inf .f32 = 2139095040 from infS]; exact hc) (by rw [hk]; omega)
  rw [e, rk_word hr.1]
  rw [hk] at hr
  refine hr.2.1 q (by show q ≤ single.infRung; rw [infS]; exact hq.1) ?_
  have h1 := Nat.mul_le_mul_right (dn .f32) hv
  have h2 := Nat.mul_le_mul_right (VS c) hq.2
  simp only [Vk, VS] at *
  refine Nat.le_trans h1 (Nat.le_trans (Nat.le_of_eq ?_) h2)
  ac_rfl

theorem fits_R {r h c : Nat} (hh : h < 2139095040) (hc0 : 0 < c) (hc : c ≤ 2139095040) (hv : VS h ≤ 3 * VS c) : ∃ b, fitsO r h c = some b ∧ (b = true → c < 2139095040) := by
  unfold fitsO
  rcases Nat.lt_or_eq_of_le hc with h1 | h1
  · rw [if_pos (over_small hc0 h1)]
    have hk : rk .f32 h = h := rk_small (by omega)
    obtain ⟨z, hz⟩ := cosh_R (x := fdiv .f32 h c) (Nat.le_trans (ratio_R (b := 3) (q := 1077936128) hc0 h1 (by rw [hk, show inf .f32 = 2139095040 from infS]; exact hh) (by rw [hk]; exact hv) (by decide +kernel)) (by decide))
    exact ⟨_, by rw [widthO, hz]; rfl, fun _ => h1⟩
  · rw [h1, if_neg (by decide)]
    exact ⟨_, rfl, fun h => by cases h⟩
theorem go_R {r h : Nat} (hh : h < 2139095040) : ∀ n lo hi, 0 < lo → lo < 2139095040 → sgn single hi = false → lo ≤ rk .f32 hi → rk .f32 hi ≤ 2139095040 → VS h ≤ 3 * VS lo → ∃ l, neckGo r h n lo hi = some l ∧ lo ≤ l ∧ l < 2139095040
  | 0, lo, hi, _, h1, _, _, _, _ => ⟨lo, rfl, Nat.le_refl _, h1⟩
  | n + 1, lo, hi, h0, h1, hs, h2, h3, h4 => by
    obtain ⟨c, e, c1, c2, c3⟩ := mid_R h0 h1 h2 h3
    rw [← mid_rk lo hs] at e
    have hv := Nat.mul_le_mul_left 3 (V_mono single c1)
    obtain ⟨b, hb, hb2⟩ := fits_R (r := r) hh (by omega) c2 (Nat.le_trans h4 hv)
    unfold neckGo
    rw [e, hb]
    simp only [Option.bind_some]
    cases b
    · exact go_R hh n lo c h0 h1 (sgn_small c2) (by rw [rk_small c2]; exact c1) (by rw [rk_small c2]; exact c2) h4
    · obtain ⟨l, g1, g2, g3⟩ := go_R (r := r) hh n c hi (by omega) (hb2 rfl) hs (c3 (hb2 rfl)) h3 (Nat.le_trans h4 hv)
      exact ⟨l, g1, by omega, g3⟩

/-- The neck is found, or there is none. -/
theorem neck_R {r g : Nat} (hr : overP r = true) (hg : overP g = true) :
    ∃ o, neckO r g = some o ∧ ∀ l, o = some l → overP l = true ∧ l < 2139095040 ∧ 0 < l ∧ (∃ h, halfP g = h ∧ h < 2139095040 ∧ VS h ≤ 3 * VS l) ∧ VS (rk .f32 g) ≤ 7 * VS l := by
  obtain ⟨h, e, h1, _, h3⟩ := half_R hg
  obtain ⟨r1, r2⟩ := over_R hr
  obtain ⟨r3, r4, r5⟩ := sv_pos r2
  unfold neckO lowP
  rw [e]
  rcases Nat.eq_zero_or_pos h with h0 | h0
  · subst h0
    have e0 : fdiv .f32 0 1067028242 = 0 := by decide
    rw [e0]
    have : fitsO r 0 0 = some false := by
      unfold fitsO
      rw [if_neg (by decide)]
    rw [this]
    exact ⟨none, rfl, fun l hl => by cases hl⟩
  · obtain ⟨l, e2, l0, l1, l2⟩ := low_R h0 h1
    rw [e2]
    obtain ⟨b, hb, _⟩ := fits_R (r := r) h1 l0 (Nat.le_of_lt l1) l2
    rw [hb]
    simp only [Option.bind_some]
    split
    · rename_i hc
      simp only [Bool.and_eq_true, Bool.not_eq_true'] at hc
      have hlf : rk .f32 l < inf .f32 := by rw [rk_small (by omega), show inf .f32 = 2139095040 from infS]; exact l1
      have hgt := hc.2
      rw [fgt_R hlf r1, sv_small (Nat.le_of_lt l1), r5] at hgt
      simp only [decide_eq_false_iff_not] at hgt
      have hle : l ≤ rk .f32 r := V_le (f := single) (by
        have : ¬ (V single (rk .f32 r) : Int) < V single l := hgt
        omega)
      have hri : rk .f32 r < 2139095040 := by rw [← infS]; exact r1
      obtain ⟨l', g1, g2, g3⟩ := go_R (r := r) h1 30 l r l0 l1 r3 hle (Nat.le_of_lt hri) l2
      rw [g1]
      refine ⟨some l', rfl, fun x hx => ?_⟩
      cases hx
      have hv := V_mono single g2
      have hp := V_pos (f := single) (show 0 < l' by omega)
      have h5 : VS h ≤ 3 * VS l' := Nat.le_trans l2 (Nat.mul_le_mul_left 3 hv)
      exact ⟨over_small (by omega) g3, g3, by omega, ⟨h, rfl, h1, h5⟩, by simp only [VS] at *; omega⟩
    · exact ⟨none, rfl, fun l hl => by cases hl⟩
end Vs
