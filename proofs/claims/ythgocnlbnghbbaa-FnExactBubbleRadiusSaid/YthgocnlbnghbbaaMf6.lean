/-
  The natural logarithm: its loops, and how great it is.
-/
import Derived.Test.YthgocnlbnghbbaaMf5
namespace Vs
open Go Ieee

theorem infD : double.infRung = 9218868437227405312 := by decide
theorem swD : double.signWeight = 9223372036854775808 := by decide
theorem bD : double.binade = 4503599627370496 := by decide
theorem rk_smallD {r : Nat} (h : r ≤ 9218868437227405312) : rk .f64 r = r := by
  show r % double.signWeight = r
  rw [swD]
  exact Nat.mod_eq_of_lt (by omega)
theorem sgn_smallD {r : Nat} (h : r ≤ 9218868437227405312) : sgn double r = false := by
  unfold sgn
  rw [swD, Nat.div_eq_of_lt (by omega)]
  rfl
theorem finD {r : Nat} (h : r < 9218868437227405312) : rk .f64 r < inf .f64 := by
  rw [rk_smallD (by omega), show inf .f64 = 9218868437227405312 from infD]
  exact h
theorem sv_smallD {r : Nat} (h : r ≤ 9218868437227405312) : sv .f64 r = (V double r : Int) := by
  have a1 : sgn FloatKind.f64.format r = false := sgn_smallD h
  unfold sv
  rw [a1, rk_smallD h]
  rfl
/-- A binade up, the value is twice as great. -/
theorem V_up {f : Format} {r : Nat} (h : f.binade ≤ r) : V f (r + f.binade) = 2 * V f r := by
  have hbp := binade_pos f
  unfold V
  rw [if_neg (by omega), if_neg (by omega), Nat.add_div_right _ hbp, Nat.add_mod_right]
  have hq : 1 ≤ r / f.binade := (Nat.le_div_iff_mul_le hbp).2 (by omega)
  have e3 : r / f.binade + 1 - 1 = (r / f.binade - 1) + 1 := by omega
  rw [e3, Nat.pow_succ]
  ac_rfl
theorem V2D : V double 4611686018427387904 = 2 * dn .f64 := by decide +kernel
theorem half_D {y : Nat} (h : 4503599627370496 ≤ y) (h2 : y + 4503599627370496 < 9218868437227405312) : fdiv .f64 (y + 4503599627370496) 4611686018427387904 = y := by
  have e2 : rk .f64 4611686018427387904 = 4611686018427387904 := by decide
  obtain ⟨r, e, hr⟩ := fdiv_R (k := .f64) (x := y + 4503599627370496) (y := 4611686018427387904) (finD h2) (by decide) (by decide)
  have s1 : sgn FloatKind.f64.format (y + 4503599627370496) = false := sgn_smallD (by omega)
  have s2 : sgn FloatKind.f64.format 4611686018427387904 = false := by decide
  rw [s1, s2] at e
  rw [rk_smallD (by omega), e2] at hr
  have hv : V double (y + 4503599627370496) = 2 * V double y := by
    have := V_up (f := double) (r := y) (by rw [bD]; exact h)
    rwa [bD] at this
  have : r = y := hr.exact (by show y ≤ double.infRung; rw [infD]; omega) (by
    show V double (y + 4503599627370496) * dn .f64 = V double y * V double 4611686018427387904
    rw [hv, V2D]
    generalize V double y = a
    generalize dn .f64 = w
    ac_rfl)
  rw [e, this]
  rfl
theorem dbl_D {y : Nat} (h : 4503599627370496 ≤ y) (h2 : y + 4503599627370496 < 9218868437227405312) : fmul .f64 y 4611686018427387904 = y + 4503599627370496 := by
  have e2 : rk .f64 4611686018427387904 = 4611686018427387904 := by decide
  obtain ⟨r, e, hr⟩ := fmul_R (k := .f64) (x := y) (y := 4611686018427387904) (finD (by omega)) (by decide)
  have s1 : sgn FloatKind.f64.format y = false := sgn_smallD (by omega)
  have s2 : sgn FloatKind.f64.format 4611686018427387904 = false := by decide
  rw [s1, s2] at e
  rw [rk_smallD (by omega), e2] at hr
  have hv : V double (y + 4503599627370496) = 2 * V double y := by
    have := V_up (f := double) (r := y) (by rw [bD]; exact h)
    rwa [bD] at this
  have : r = y + 4503599627370496 := hr.exact (by show y + 4503599627370496 ≤ double.infRung; rw [infD]; omega) (by
    show V double y * V double 4611686018427387904 = V double (y + 4503599627370496) * dn .f64
    rw [hv, V2D]
    generalize V double y = a
    generalize dn .f64 = w
    ac_rfl)
  rw [e, this]
  rfl
theorem ge_D {x y : Nat} (hx : x < 9218868437227405312) (hy : y < 9218868437227405312) : fge .f64 x y = decide (y ≤ x) := by
  rw [fge_R (finD hx) (finD hy), sv_smallD (by omega), sv_smallD (by omega)]
  by_cases h : y ≤ x
  · have := V_mono double h
    simp only [h, decide_true, decide_eq_true_eq]
    omega
  · have := V_strict double (show x < y by omega)
    simp only [h, decide_false, decide_eq_false_iff_not]
    omega
theorem lt_D {x y : Nat} (hx : x < 9218868437227405312) (hy : y < 9218868437227405312) : flt .f64 x y = decide (x < y) := by
  rw [flt_R (finD hx) (finD hy), sv_smallD (by omega), sv_smallD (by omega)]
  by_cases h : x < y
  · have := V_strict double h
    simp only [h, decide_true, decide_eq_true_eq]
    omega
  · have := V_mono double (show y ≤ x by omega)
    simp only [h, decide_false, decide_eq_false_iff_not]
    omega

/-! ### The logarithm -/
def qStep (u n q : Nat) : Nat := fadd .f64 (fdiv .f64 4607182418800017408 (i2f .f64 ((2 * n + 1 : Nat) : Int))) (fmul .f64 u q)
noncomputable def qGo (u n : Nat) : Nat → Nat := @Nat.rec (fun _ => Nat → Nat) (fun q => q) (fun m ih q => ih (qStep u m q)) n
def quotP (y : Nat) : Nat := fdiv .f64 (fsub .f64 y 4607182418800017408) (fadd .f64 y 4607182418800017408)
noncomputable def logW (y : Nat) (e : Int) : Nat :=
  fadd .f64 (fmul .f64 4611686018427387904 (fmul .f64 (quotP y) (qGo (fmul .f64 (quotP y) (quotP y)) 13 0))) (fmul .f64 (i2f .f64 e) 4604418534313441775)
/-- A number's part between three quarters and three halves, and how often it was halved. -/
def NormD (x y : Nat) (e : Int) : Prop := 4604930618986332160 ≤ y ∧ y < 4609434218613702656 ∧ -149 ≤ e ∧ e ≤ 128 ∧ (x : Int) = y + e * 4503599627370496
theorem norm_D {x : Nat} (h1 : 3936146074321813504 ≤ x) (h2 : x < 5183643171103440896) : ∃ y e, NormD x y e := by
  unfold NormD
  refine ⟨4604930618986332160 + (x + 149 * 4503599627370496 - 4604930618986332160) % 4503599627370496, ((x + 149 * 4503599627370496 - 4604930618986332160) / 4503599627370496 : Nat) - 149, ?_⟩
  omega
theorem norm_uniq {x y y' : Nat} {e e' : Int} (h : NormD x y e) (h' : NormD x y' e') : y = y' ∧ e = e' := by
  unfold NormD at h h'
  omega
open Classical in
noncomputable def logF (x : Nat) : Nat := if h : ∃ y e, NormD x y e then logW h.choose h.choose_spec.choose else 0
theorem logF_eq {x y : Nat} {e : Int} (h : NormD x y e) : logF x = logW y e := by
  unfold logF
  have hex : ∃ y e, NormD x y e := ⟨y, e, h⟩
  have key : ∀ y' e', NormD x y' e' → logW y' e' = logW y e := by
    intro y' e' h'
    obtain ⟨rfl, rfl⟩ := norm_uniq h' h
    rfl
  rw [dif_pos hex]
  exact key _ _ hex.choose_spec.choose_spec

theorem kq_R : ∀ n : Nat, n < 13 → 4607182418800017408 ≤ rk .f64 (i2f .f64 ((2 * n + 1 : Nat) : Int)) ∧ rk .f64 (i2f .f64 ((2 * n + 1 : Nat) : Int)) < inf .f64 := by decide +kernel
theorem qGo_step {u q n : Nat} (hu : rk .f64 u ≤ 4590645246798174945) (hn : n < 13) (hq : rk .f64 q ≤ 4608308318706860032) :
    rk .f64 (qStep u n q) ≤ 4608308318706860032 := by
  obtain ⟨k1, k2⟩ := kq_R n hn
  have h1 : rk .f64 (fdiv .f64 4607182418800017408 (i2f .f64 ((2 * n + 1 : Nat) : Int))) ≤ 4607182418800017408 := mg_div (a := 4607182418800017408) (b := 4607182418800017408) (by decide) k1 k2 (by decide +kernel)
  have h2 : rk .f64 (fmul .f64 u q) ≤ 4598175219545276416 := mg_mul hu hq (by decide +kernel)
  exact mg_add h1 h2 (by decide +kernel)
theorem qGo_succ (u n q : Nat) : qGo u (n + 1) q = qGo u n (qStep u n q) := by unfold qGo; rfl
theorem qGo_R {u : Nat} (hu : rk .f64 u ≤ 4590645246798174945) (n : Nat) : ∀ q : Nat, n ≤ 13 → rk .f64 q ≤ 4608308318706860032 → rk .f64 (qGo u n q) ≤ 4608308318706860032 := by
  induction n with
  | zero => exact fun q _ hq => hq
  | succ n ih =>
    intro q hn hq
    rw [qGo_succ]
    exact ih (qStep u n q) (Nat.le_of_succ_le hn) (qGo_step hu hn hq)
def keB (n : Nat) : Prop := rk .f64 (i2f .f64 (n : Int)) ≤ 4639481672377565184 ∧ rk .f64 (i2f .f64 (-(n : Int))) ≤ 4639481672377565184
instance (n : Nat) : Decidable (keB n) := by unfold keB; infer_instance
theorem ke_0 : ∀ n : Nat, n < 15 → keB (n + 0) := by decide +kernel
theorem ke_1 : ∀ n : Nat, n < 15 → keB (n + 15) := by decide +kernel
theorem ke_2 : ∀ n : Nat, n < 15 → keB (n + 30) := by decide +kernel
theorem ke_3 : ∀ n : Nat, n < 15 → keB (n + 45) := by decide +kernel
theorem ke_4 : ∀ n : Nat, n < 15 → keB (n + 60) := by decide +kernel
theorem ke_5 : ∀ n : Nat, n < 15 → keB (n + 75) := by decide +kernel
theorem ke_6 : ∀ n : Nat, n < 15 → keB (n + 90) := by decide +kernel
theorem ke_7 : ∀ n : Nat, n < 15 → keB (n + 105) := by decide +kernel
theorem ke_8 : ∀ n : Nat, n < 15 → keB (n + 120) := by decide +kernel
theorem ke_9 : ∀ n : Nat, n < 15 → keB (n + 135) := by decide +kernel
theorem ke_R (n : Nat) (hn : n < 150) : rk .f64 (i2f .f64 (n : Int)) ≤ 4639481672377565184 ∧ rk .f64 (i2f .f64 (-(n : Int))) ≤ 4639481672377565184 := by
  show keB n
  by_cases h0 : n < 15
  · have := ke_0 (n - 0) (by omega); rwa [Nat.sub_add_cancel (by omega)] at this
  by_cases h1 : n < 30
  · have := ke_1 (n - 15) (by omega); rwa [Nat.sub_add_cancel (by omega)] at this
  by_cases h2 : n < 45
  · have := ke_2 (n - 30) (by omega); rwa [Nat.sub_add_cancel (by omega)] at this
  by_cases h3 : n < 60
  · have := ke_3 (n - 45) (by omega); rwa [Nat.sub_add_cancel (by omega)] at this
  by_cases h4 : n < 75
  · have := ke_4 (n - 60) (by omega); rwa [Nat.sub_add_cancel (by omega)] at this
  by_cases h5 : n < 90
  · have := ke_5 (n - 75) (by omega); rwa [Nat.sub_add_cancel (by omega)] at this
  by_cases h6 : n < 105
  · have := ke_6 (n - 90) (by omega); rwa [Nat.sub_add_cancel (by omega)] at this
  by_cases h7 : n < 120
  · have := ke_7 (n - 105) (by omega); rwa [Nat.sub_add_cancel (by omega)] at this
  by_cases h8 : n < 135
  · have := ke_8 (n - 120) (by omega); rwa [Nat.sub_add_cancel (by omega)] at this
  by_cases h9 : n < 150
  · have := ke_9 (n - 135) (by omega); rwa [Nat.sub_add_cancel (by omega)] at this
  omega

theorem key1 (p1 p2 p3 p4 s : Nat) (a1 : p4 ≤ s) (a2 : s ≤ p3) (a3 : p3 = p2 + p1) (a4 : p2 ≤ p4 + p1) : ((s : Int) - (p2 : Int)).natAbs ≤ p1 := by omega
theorem key2 (p1 p2 p4 s : Nat) (a1 : p4 ≤ s) (a3 : p1 = p2 + p4) : p1 ≤ ((s : Int) + (p2 : Int)).natAbs := by omega
theorem log_R {x y : Nat} {e : Int} (h : NormD x y e) : rk .f64 (logW y e) ≤ 4637089135075524608 := by
  obtain ⟨h1, h2, h3, h4, _⟩ := h
  have hyk : rk .f64 y = y := rk_smallD (by omega)
  have e1 : rk .f64 4607182418800017408 = 4607182418800017408 := by decide
  have sv1 : sv .f64 4607182418800017408 = (V double 4607182418800017408 : Int) := sv_smallD (by decide)
  have hsub : rk .f64 (fsub .f64 y 4607182418800017408) ≤ 4602678819172646912 := by
    obtain ⟨r, u, e, hr⟩ := fsub_R (k := .f64) (x := y) (y := 4607182418800017408) (finD (by omega)) (by decide)
    rw [e, rk_word hr.1]
    rw [sv_smallD (by omega), sv1] at hr
    refine hr.2.1 _ (by decide) ?_
    have a1 := V_mono double h1
    have a2 := V_mono double (Nat.le_of_lt h2)
    have a3 : V double 4609434218613702656 = V double 4607182418800017408 + V double 4602678819172646912 := by decide +kernel
    have a4 : V double 4607182418800017408 ≤ V double 4604930618986332160 + V double 4602678819172646912 := by decide +kernel
    rw [Nat.mul_one]
    exact key1 (V double 4602678819172646912) (V double 4607182418800017408) (V double 4609434218613702656) (V double 4604930618986332160) (V double y) a1 a2 a3 a4
  have hadd : 4610560118520545280 ≤ rk .f64 (fadd .f64 y 4607182418800017408) ∧ rk .f64 (fadd .f64 y 4607182418800017408) < inf .f64 := by
    have a5 : rk .f64 (fadd .f64 y 4607182418800017408) ≤ 4612811918334230528 := mg_add (a := 4609434218613702656) (b := 4607182418800017408) (by rw [hyk]; omega) (by decide) (by decide +kernel)
    refine ⟨?_, Nat.lt_of_le_of_lt a5 (by decide)⟩
    obtain ⟨r, u, e, hr, _⟩ := fadd_R (k := .f64) (x := y) (y := 4607182418800017408) (finD (by omega)) (by decide)
    rw [e, rk_word hr.1]
    rw [sv_smallD (by omega), sv1] at hr
    refine hr.2.2 _ (by decide) ?_
    have a1 := V_mono double h1
    have a3 : V double 4610560118520545280 = V double 4607182418800017408 + V double 4604930618986332160 := by decide +kernel
    rw [Nat.mul_one]
    exact key2 (V double 4610560118520545280) (V double 4607182418800017408) (V double 4604930618986332160) (V double y) a1 a3
  have hs : rk .f64 (quotP y) ≤ 4598823737891617145 := mg_div hsub hadd.1 hadd.2 (by decide +kernel)
  have hu : rk .f64 (fmul .f64 (quotP y) (quotP y)) ≤ 4590645246798174945 := mg_mul hs hs (by decide +kernel)
  have hq := qGo_R hu 13 0 (Nat.le_refl _) (by decide)
  have hsq : rk .f64 (fmul .f64 (quotP y) (qGo (fmul .f64 (quotP y) (quotP y)) 13 0)) ≤ 4600156803381319434 := mg_mul hs hq (by decide +kernel)
  have h2s : rk .f64 (fmul .f64 4611686018427387904 (fmul .f64 (quotP y) (qGo (fmul .f64 (quotP y) (quotP y)) 13 0))) ≤ 4604660403008689930 := mg_mul (a := 4611686018427387904) (by decide) hsq (by decide +kernel)
  have he : rk .f64 (i2f .f64 e) ≤ 4639481672377565184 := by
    rcases Int.le_total 0 e with h0 | h0
    · have := (ke_R e.toNat (by omega)).1
      rwa [show ((e.toNat : Nat) : Int) = e by omega] at this
    · have := (ke_R (-e).toNat (by omega)).2
      rwa [show -(((-e).toNat : Nat) : Int) = e by omega] at this
  have hl : rk .f64 (fmul .f64 (i2f .f64 e) 4604418534313441775) ≤ 4637018766331346944 := mg_mul (b := 4604418534313441775) he (by decide) (by decide +kernel)
  exact mg_add h2s hl (by decide +kernel)

end Vs
