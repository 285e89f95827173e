/-
  Widening and narrowing by rungs; halves; the exponential function is narrowed without overflow.
-/
import Derived.Test.YthgocnlbnghbbaaMf4
import Derived.Test.YthgocnlbnghbbaaD
namespace Vs
open Go Ieee

/-- One unit of single precision in units of double precision. -/
def cw : Nat := 2 ^ 925
theorem lpD : FloatKind.f64.format.leastPlace = -1074 := by decide
theorem lpS : FloatKind.f32.format.leastPlace = -149 := by decide
theorem cw_eq : 2 ^ (single.leastPlace - -1074).toNat = cw := by decide +kernel

theorem narrow_R {y c : Nat} (hy : rk .f64 y < inf .f64) (hc : c < inf .f32) (h : Vk .f64 (rk .f64 y) ≤ Vk .f32 c * cw) : ∃ z, f2f .f64 .f32 y = some z ∧ rk .f32 z ≤ c := by
  obtain ⟨m, e, h1, h2, h3, _⟩ := read_fin hy
  obtain ⟨r, hr, hB⟩ := nearest_R (f := single) (sgn double y) m e
  have hr2 := hB (-1074) (by rw [lpD] at h2; exact h2) (by decide)
  rw [lpD] at h3
  have h3' : m * 2 ^ (e - -1074).toNat = V double (rk .f64 y) := h3
  rw [h3'] at hr2
  have hle : r ≤ c := by
    rw [hr2]
    exact rung_le okS (by decide) (Nat.le_of_lt hc) (by rw [cw_eq]; exact h)
  have hri : r < single.infRung := Nat.lt_of_le_of_lt hle hc
  have hd : FloatKind.f64.decode y = .number (sgn double y) m e := h1
  have hen : FloatKind.f32.encode (.number (sgn double y) m e) = single.word (sgn double y) r := hr
  refine ⟨single.word (sgn double y) r, ?_, ?_⟩
  · unfold f2f
    rw [if_neg (by decide), hd]
    simp only [hen]
    have h5 : (FloatKind.f32.decode (single.word (sgn double y) r)).isInfinity = false := read_word okS.hw hri
    rw [h5]
    simp only [Bool.false_eq_true, if_false]
    exact congrArg some (canon_word (k := .f32) (Nat.le_of_lt hri))
  · show rg single _ ≤ c
    rw [word_rg okS (Nat.le_of_lt hri)]
    exact hle

theorem wide_word {x : Nat} (hx : rk .f32 x < inf .f32) : ∃ r, wide x = double.word (sgn single x) r ∧ r < inf .f64 ∧ (∀ q, q ≤ inf .f64 → Vk .f32 (rk .f32 x) * cw ≤ Vk .f64 q → r ≤ q) ∧ (∀ q, q ≤ inf .f64 → Vk .f64 q ≤ Vk .f32 (rk .f32 x) * cw → q ≤ r) := by
  obtain ⟨m, e, h1, h2, h3, _⟩ := read_fin hx
  have hd : FloatKind.f32.decode x = .number (sgn single x) m e := h1
  obtain ⟨a, b, c⟩ := read_single (show single.read x = .number (sgn single x) m e from h1)
  obtain ⟨r', g1, g2⟩ := nearest_wide (s := sgn single x) a b c
  obtain ⟨r, hr, hB⟩ := nearest_R (f := double) (sgn single x) m e
  have hrr : r' = r := word_inj (g1.symm.trans hr)
  subst hrr
  have hr2 := hB (-1074) (by omega) (by decide)
  rw [lpS] at h3
  have h3' : m * 2 ^ (e - -149).toNat = V single (rk .f32 x) := h3
  have e1 : m * 2 ^ (e - -1074).toNat = V single (rk .f32 x) * cw := by
    rw [← h3', ← cw_eq, Nat.mul_assoc, ← Nat.pow_add]
    congr 2
    have : single.leastPlace = -149 := lpS
    omega
  rw [e1] at hr2
  have e2 : (double.leastPlace - -1074).toNat = 0 := by decide
  have hx2 := f2f_wide x
  unfold f2f at hx2
  rw [if_neg (by decide), hd] at hx2
  have hen : FloatKind.f64.encode (.number (sgn single x) m e) = double.word (sgn single x) r' := hr
  simp only [hen] at hx2
  have h5 : (FloatKind.f64.decode (double.word (sgn single x) r')).isInfinity = false := read_word okD.hw g2
  rw [h5] at hx2
  simp only [Bool.false_eq_true, if_false, Option.some.injEq] at hx2
  refine ⟨r', by rw [← hx2]; exact canon_word (k := .f64) (Nat.le_of_lt g2), g2, fun q hq h => ?_, fun q hq h => ?_⟩
  · rw [hr2]; exact rung_le okD (by decide) hq (by rw [e2, Nat.pow_zero, Nat.mul_one]; exact h)
  · rw [hr2]; exact le_rung okD (by decide) hq (by rw [e2, Nat.pow_zero, Nat.mul_one]; exact h)
theorem wide_le {x c c' : Nat} (hx : rk .f32 x ≤ c) (h : c < inf .f32 ∧ c' ≤ inf .f64 ∧ Vk .f32 c * cw ≤ Vk .f64 c') : rk .f64 (wide x) ≤ c' := by
  obtain ⟨h1, h2, h3⟩ := h
  obtain ⟨r, e, hr, hle, _⟩ := wide_word (x := x) (by omega)
  rw [e]
  show rg double _ ≤ c'
  rw [word_rg okD (Nat.le_of_lt hr)]
  exact hle c' h2 (Nat.le_trans (Nat.mul_le_mul_right _ (V_mono _ hx)) h3)

theorem sv_zero (k : FloatKind) : sv k 0 = 0 := by
  have : rk k 0 = 0 := Nat.zero_mod _
  unfold sv
  simp only [this, Vk, V_zero]
  split <;> rfl
theorem rk0 (k : FloatKind) : rk k 0 < inf k := by cases k <;> decide
theorem sv_pos {k : FloatKind} {x : Nat} (h : 0 < sv k x) : sgn k.format x = false ∧ 0 < rk k x ∧ sv k x = Vk k (rk k x) := by
  unfold sv at h ⊢
  split at h
  · omega
  · rename_i hs
    refine ⟨by simpa using hs, ?_, by rw [if_neg hs]⟩
    rcases Nat.eq_zero_or_pos (rk k x) with h0 | h0
    · rw [h0] at h
      simp only [Vk, V_zero] at h
      omega
    · exact h0
theorem fin_R {x : Nat} (h : finP x = true) : rk .f32 x < inf .f32 := by
  unfold finP fsub Format.sub at h
  cases hr : single.read x with
  | number s m e => exact read_num okS hr
  | infinity s =>
    have hr' : FloatKind.f32.format.read x = .infinity s := hr
    rw [hr'] at h
    cases s <;> exact absurd h (by decide)
  | nan s t =>
    have hr' : FloatKind.f32.format.read x = .nan s t := hr
    rw [hr'] at h
    exact absurd h (by simp only [Datum.sum, Option.map_none]; decide)
theorem over_R {x : Nat} (h : overP x = true) : rk .f32 x < inf .f32 ∧ 0 < sv .f32 x := by
  unfold overP at h
  simp only [Bool.and_eq_true] at h
  have h1 := fin_R h.1
  refine ⟨h1, ?_⟩
  have h2 := h.2
  rw [fgt_R h1 (rk0 _), sv_zero] at h2
  simpa using h2
theorem R_over {x : Nat} (h1 : rk .f32 x < inf .f32) (h2 : 0 < sv .f32 x) : overP x = true := by
  unfold overP finP
  rw [fgt_R h1 (rk0 _), sv_zero]
  obtain ⟨r, u, e, hr⟩ := fsub_R h1 h1
  have hr0 : r = 0 := hr.exact (q := 0) (Nat.zero_le _) (by simp [V_zero])
  subst hr0
  rw [e, feq_R (by rw [rk_word (Nat.zero_le _)]; decide) (rk0 _), sv_zero]
  have : sv .f32 (FloatKind.f32.format.word u 0) = 0 := by
    unfold sv
    rw [rk_word (Nat.zero_le _)]
    simp only [Vk, V_zero]
    split <;> rfl
  simp [this, h2]

/-! ### The exponential function -/
def hornE (t : Nat) : Nat → Nat → Nat
  | 0, p => p
  | n + 1, p => hornE t n (fadd .f64 4607182418800017408 (fdiv .f64 (fmul .f64 t p) (i2f .f64 ((n + 1 : Nat) : Int))))
def sqE : Nat → Nat → Nat
  | 0, p => p
  | n + 1, p => sqE n (fmul .f64 p p)
def expW (x : Nat) : Nat :=
  if fgt .f64 x 4641240890982006784 = true then 9218868437227405312 else if flt .f64 x 13864612927836782592 = true then 0 else sqE 8 (hornE (fdiv .f64 x 4643211215818981376) 12 4607182418800017408)

theorem ks_R : ∀ n, n < 12 → 4607182418800017408 ≤ rk .f64 (i2f .f64 ((n + 1 : Nat) : Int)) ∧ rk .f64 (i2f .f64 ((n + 1 : Nat) : Int)) < inf .f64 := by decide +kernel
theorem horn_R {t : Nat} (ht : rk .f64 t ≤ 4594234569871327232) : ∀ n p, n ≤ 12 → rk .f64 p ≤ 4608026843730149376 → rk .f64 (hornE t n p) ≤ 4608026843730149376
  | 0, p, _, hp => hp
  | n + 1, p, hn, hp => by
    obtain ⟨k1, k2⟩ := ks_R n (by omega)
    refine horn_R ht n _ (by omega) ?_
    have h1 : rk .f64 (fmul .f64 t p) ≤ 4595292915783759299 := mg_mul ht hp (by decide +kernel)
    have h2 : rk .f64 (fdiv .f64 (fmul .f64 t p) (i2f .f64 ((n + 1 : Nat) : Int))) ≤ 4595292915783759299 := mg_div h1 k1 k2 (by decide +kernel)
    exact mg_add (a := 4607182418800017408) (by decide) h2 (by decide +kernel)

theorem sq_R {p : Nat} (hp : rk .f64 p ≤ 4608026843730149376) : rk .f64 (sqE 8 p) ≤ 4958463189734916096 := by
  have h1 : rk .f64 (fmul .f64 p p) ≤ 4609434218613702656 := mg_mul hp hp (by decide +kernel)
  unfold sqE
  generalize fmul .f64 p p = p at *
  have h2 : rk .f64 (fmul .f64 p p) ≤ 4612248968380809216 := mg_mul h1 h1 (by decide +kernel)
  unfold sqE
  generalize fmul .f64 p p = p at *
  have h3 : rk .f64 (fmul .f64 p p) ≤ 4617596992938311680 := mg_mul h2 h2 (by decide +kernel)
  unfold sqE
  generalize fmul .f64 p p = p at *
  have h4 : rk .f64 (fmul .f64 p p) ≤ 4628574517030027264 := mg_mul h3 h3 (by decide +kernel)
  unfold sqE
  generalize fmul .f64 p p = p at *
  have h5 : rk .f64 (fmul .f64 p p) ≤ 4650107352748392448 := mg_mul h4 h4 (by decide +kernel)
  unfold sqE
  generalize fmul .f64 p p = p at *
  have h6 : rk .f64 (fmul .f64 p p) ≤ 4693527066929266688 := mg_mul h5 h5 (by decide +kernel)
  unfold sqE
  generalize fmul .f64 p p = p at *
  have h7 : rk .f64 (fmul .f64 p p) ≤ 4782822804267466752 := mg_mul h6 h6 (by decide +kernel)
  unfold sqE
  generalize fmul .f64 p p = p at *
  have h8 : rk .f64 (fmul .f64 p p) ≤ 4958463189734916096 := mg_mul h7 h7 (by decide +kernel)
  exact h8
/-- ExpNumber. -/
def expO (x : Nat) : Option Nat := f2f .f64 .f32 (expW (wide x))
theorem exp_R {x : Nat} (hx : rk .f32 x ≤ 1108344832) : ∃ z, expO x = some z ∧ rk .f32 z ≤ 1719664640 := by
  have h1 : rk .f64 (wide x) ≤ 4630263366890291200 := wide_le hx (by decide +kernel)
  have hi : rk .f64 (wide x) < inf .f64 := Nat.lt_of_le_of_lt h1 (by decide)
  have h2 : rk .f64 (fdiv .f64 (wide x) 4643211215818981376) ≤ 4594234569871327232 := mg_div (b := 4643211215818981376) h1 (by decide) (by decide) (by decide +kernel)
  have h3 : rk .f64 (expW (wide x)) ≤ 4958463189734916096 := by
    unfold expW
    split
    · rename_i hg
      rw [fgt_R hi (by decide)] at hg
      exfalso
      have ha := sv_abs .f64 (wide x)
      have hv := V_mono double h1
      have hb : V double 4630263366890291200 < V double 4641240890982006784 := V_strict _ (by decide)
      have hs : sv .f64 4641240890982006784 = (V double 4641240890982006784 : Int) := by
        have a1 : sgn FloatKind.f64.format 4641240890982006784 = false := by decide
        have a2 : rk .f64 4641240890982006784 = 4641240890982006784 := by decide
        unfold sv
        rw [a1, a2]
        rfl
      rw [hs] at hg
      have ha' : (sv .f64 (wide x)).natAbs = V double (rk .f64 (wide x)) := ha
      have hv' : V double (rk .f64 (wide x)) ≤ V double 4630263366890291200 := hv
      simp only [decide_eq_true_eq] at hg
      omega
    · split
      · exact Nat.le_trans (by decide) (Nat.zero_le _)
      · exact sq_R (horn_R h2 12 _ (Nat.le_refl _) (by decide))
  exact narrow_R (Nat.lt_of_le_of_lt h3 (by decide)) (by decide) (Nat.le_trans (V_mono double h3) (by decide +kernel))

/-! ### The neck of a film -/
/-- A positive rung, halved. -/
def hv (f : Format) (r : Nat) : Nat := if r < 2 * f.binade then r / 2 else r - f.binade
/-! Single precision: words of positive numbers are rungs. -/
abbrev K : FloatKind := .f32
abbrev VS (r : Nat) : Nat := V single r
theorem infS : single.infRung = 2139095040 := by decide
theorem swS : single.signWeight = 2147483648 := by decide
theorem rk_small {r : Nat} (h : r ≤ 2139095040) : rk .f32 r = r := by
  show r % single.signWeight = r
  rw [swS]
  exact Nat.mod_eq_of_lt (by omega)
theorem sgn_small {r : Nat} (h : r ≤ 2139095040) : sgn single r = false := by
  unfold sgn
  rw [swS, Nat.div_eq_of_lt (by omega)]
  rfl
theorem sv_small {r : Nat} (h : r ≤ 2139095040) : sv .f32 r = (VS r : Int) := by
  have a1 : sgn FloatKind.f32.format r = false := sgn_small h
  unfold sv
  rw [a1, rk_small h]
  rfl
theorem over_small {r : Nat} (h0 : 0 < r) (h : r < 2139095040) : overP r = true := by
  refine R_over (by rw [rk_small (by omega)]; exact (by rw [show inf .f32 = 2139095040 from infS]; exact h)) ?_
  rw [sv_small (by omega)]
  have := V_pos (f := single) h0
  simp only [VS]
  omega
end Vs
