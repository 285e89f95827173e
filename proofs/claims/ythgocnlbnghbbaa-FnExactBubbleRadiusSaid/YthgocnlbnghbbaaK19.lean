/-
  BubbleRadius: what the functions compute, and the law.
-/
import Derived.Test.YthgocnlbnghbbaaMf6
import Derived.Test.YthgocnlbnghbbaaD
import Derived.Test.YthgocnlbnghbbaaK3
import Derived.Test.YthgocnlbnghbbaaK18
namespace Vs
open Go Ieee

def lgR (x : Nat) : Bool := decide (3936146074321813504 ≤ x ∧ x < 5183643171103440896)
noncomputable def logO (x : Nat) : Option Nat :=
  if x = 0 then some 4286578688 else if x = 2139095040 then some x else if x < 2139095040 then f2f .f64 .f32 (logF (wide x)) else none
def bubQ (v : Nat) : Nat := fdiv .f32 (fmul .f32 1077936128 v) 1095307227
noncomputable def bubO (v : Nat) : Option Nat := (logO (bubQ v)).bind fun l => expO (fdiv .f32 l 1077936128)
noncomputable def F325 : List D → Option (List D)
  | [.flt x] => if x = 0 then some [.flt 18442240474082181120] else if x = 9218868437227405312 then some [.flt x] else if lgR x = true then some [.flt (logF x)] else none
  | _ => none
noncomputable def F326 : List D → Option (List D) | [.flt x] => if lgR x = true then some [.flt (logF x)] else none | _ => none
noncomputable def F327 : List D → Option (List D) | [.flt x] => (logO x).map fun y => [.flt y] | _ => none
noncomputable def F328 : List D → Option (List D) | [.flt v] => if overP v = true then (bubO v).map fun r => [.flt r, .bool true] else some [.flt 0, .bool false] | _ => none
def F329 : List D → Option (List D) | [.flt _] => some [.bool true] | _ => none
def F331 : List D → Option (List D) := fun _ => none
def F332 : List D → Option (List D) := fun _ => none
def F333 : List D → Option (List D) | [.flt x, .int n] => if n = 1 then some [.bool (fgt .f64 x 9218868437227405311)] else none | _ => none

/-! ### What is handed to the logarithm -/
theorem wide_rng {x : Nat} (h0 : 0 < x) (h1 : x < 2139095040) : lgR (wide x) = true := by
  have hx : rk .f32 x < inf .f32 := by rw [rk_small (by omega)]; exact h1
  obtain ⟨r, e, hr, hlo, hhi⟩ := wide_word hx
  rw [rk_small (by omega)] at hlo hhi
  rw [sgn_small (by omega)] at e
  have e' : wide x = r := e
  rw [e']
  unfold lgR
  rw [decide_eq_true_eq]
  constructor
  · refine hhi _ (by decide) ?_
    refine Nat.le_trans ?_ (Nat.mul_le_mul_right cw (V_mono single (show 1 ≤ x from h0)))
    decide +kernel
  · refine Nat.lt_of_le_of_lt (hlo 5183643171103440895 (by decide) ?_) (by decide)
    refine Nat.le_trans (Nat.mul_le_mul_right cw (V_mono single (show x ≤ 2139095039 by omega))) ?_
    decide +kernel
theorem log_norm {x : Nat} (h : lgR x = true) : ∃ y e, NormD x y e := by
  unfold lgR at h
  rw [decide_eq_true_eq] at h
  exact norm_D h.1 h.2
theorem bubQ_R {v : Nat} (hv : overP v = true) : bubQ v ≤ 2139095040 := by
  obtain ⟨h1, h2⟩ := over_R hv
  obtain ⟨hs, _, _⟩ := sv_pos h2
  obtain ⟨r, e, hr, _⟩ := fmul_R (k := .f32) (x := 1077936128) (y := v) (by decide) h1
  rw [show FloatKind.f32.format = single from rfl, show sgn single 1077936128 = false from by decide, show sgn single v = false from hs] at e
  have e2 : fmul .f32 1077936128 v = r := e
  have hr' : r ≤ 2139095040 := hr
  unfold bubQ
  rw [e2]
  rcases Nat.lt_or_ge r 2139095040 with hlt | hge
  · obtain ⟨q, e3, hq⟩ := fdiv_R (k := .f32) (x := r) (y := 1095307227) (by rw [rk_small hr']; exact hlt) (by decide) (by decide)
    rw [show FloatKind.f32.format = single from rfl, sgn_small hr', show sgn single 1095307227 = false from by decide] at e3
    have e4 : fdiv .f32 r 1095307227 = q := e3
    rw [e4]
    exact hq.1
  · have : r = 2139095040 := by omega
    subst this
    exact Nat.le_of_eq (by decide +kernel)
theorem log_fin {x : Nat} (h0 : 0 < x) (h1 : x < 2139095040) : ∃ z, f2f .f64 .f32 (logF (wide x)) = some z ∧ rk .f32 z ≤ 1121058816 := by
  obtain ⟨y, e, hn⟩ := log_norm (wide_rng h0 h1)
  rw [logF_eq hn]
  have hl := log_R hn
  exact narrow_R (Nat.lt_of_le_of_lt hl (by decide)) (by decide) (Nat.le_trans (V_mono double hl) (by decide +kernel))
theorem bub_some {v : Nat} (hv : overP v = true) : ∃ z, bubO v = some z := by
  have hq := bubQ_R hv
  unfold bubO
  generalize bubQ v = q at *
  unfold logO
  by_cases h0 : q = 0
  · rw [if_pos h0]
    exact ⟨0, by decide +kernel⟩
  rw [if_neg h0]
  by_cases h1 : q = 2139095040
  · rw [if_pos h1, h1]
    exact ⟨2139095040, by decide +kernel⟩
  rw [if_neg h1, if_pos (by omega)]
  obtain ⟨z, hz, hb⟩ := log_fin (x := q) (by omega) (by omega)
  rw [hz, Option.bind_some]
  have h3 : rk .f32 (fdiv .f32 z 1077936128) ≤ 1108344832 := mg_div (b := 1077936128) hb (by decide) (by decide) (by decide +kernel)
  obtain ⟨w, hw, _⟩ := exp_R h3
  exact ⟨w, hw⟩
theorem F328_some (v : Nat) : ∃ a b, F328 [.flt v] = some [.flt a, .bool b] := by
  unfold F328
  simp only
  split
  · rename_i h
    obtain ⟨z, hz⟩ := bub_some h
    rw [hz]
    exact ⟨_, _, rfl⟩
  · exact ⟨_, _, rfl⟩
theorem F312_of {x z : Nat} (h : expO x = some z) : F312 [.flt x] = some [.flt z] := by unfold F312; simp only [h]; rfl

/-! ### Counters -/
theorem kpi : fmul .f32 1082130432 1078530011 = 1095307227 := by decide +kernel
theorem cu1 : ∀ n : Nat, n < 128 → fadd .f64 (i2f .f64 (n : Int)) 4607182418800017408 = i2f .f64 ((n + 1 : Nat) : Int) := by decide +kernel
def cdB (n : Nat) : Bool := fsub .f64 (i2f .f64 (-(n : Int))) 4607182418800017408 == i2f .f64 (-((n + 1 : Nat) : Int))
theorem cd_0 : ∀ n : Nat, n < 50 → cdB n = true := by decide +kernel
theorem cd_1 : ∀ n : Nat, n < 50 → cdB (n + 50) = true := by decide +kernel
theorem cd_2 : ∀ n : Nat, n < 50 → cdB (n + 100) = true := by decide +kernel
theorem cd1 (n : Nat) (h : n < 150) : fsub .f64 (i2f .f64 (-(n : Int))) 4607182418800017408 = i2f .f64 (-((n + 1 : Nat) : Int)) := by
  apply beq_iff_eq.1
  show cdB n = true
  by_cases h0 : n < 50
  · exact cd_0 n h0
  by_cases h1 : n < 100
  · have := cd_1 (n - 50) (by omega); rwa [Nat.sub_add_cancel (by omega)] at this
  · have := cd_2 (n - 100) (by omega); rwa [Nat.sub_add_cancel (by omega)] at this
theorem c0 : i2f .f64 0 = 0 := by decide +kernel
theorem cq : ∀ n : Nat, n < 13 → fge .f64 (i2f .f64 ((2 * n + 1 : Nat) : Int)) 4607182418800017408 = true ∧ fsub .f64 (i2f .f64 ((2 * n + 1 : Nat) : Int)) 4611686018427387904 = i2f .f64 (2 * (n : Int) - 1) := by decide +kernel
theorem cq0 : fge .f64 (i2f .f64 (2 * ((0 : Nat) : Int) - 1)) 4607182418800017408 = false := by decide +kernel
theorem cq13 : i2f .f64 25 = 4627730092099895296 := by decide +kernel
theorem one_ge {y n : Nat} (h1 : 4604930618986332160 ≤ y) (h2 : y + (n + 1) * 4503599627370496 < 9218868437227405312) : fge .f64 (y + (n + 1) * 4503599627370496) 4609434218613702656 = true := by
  rw [ge_D h2 (by decide), decide_eq_true_eq]; omega
theorem one_nge {y : Nat} (h2 : y < 4609434218613702656) : fge .f64 y 4609434218613702656 = false := by
  rw [ge_D (by omega) (by decide), decide_eq_false_iff_not]; omega
theorem thr_lt {x : Nat} (h2 : x < 4604930618986332160) : flt .f64 x 4604930618986332160 = true := by
  rw [lt_D (by omega) (by decide), decide_eq_true_eq]; exact h2
theorem thr_nlt {y : Nat} (h1 : 4604930618986332160 ≤ y) (h2 : y < 4609434218613702656) : flt .f64 y 4604930618986332160 = false := by
  rw [lt_D (by omega) (by decide), decide_eq_false_iff_not]; omega

def T325 : T :=
(.op none (.fcm .neq .f64) [(.v 0), (.v 0)] <|
(.op (some ((.v 1), false)) .id [(.v 0)] <|
(.op (some ((.v 1), false)) (.fcm .lss .f64) [(.v 2), (.c (.flt 0))] <|
(.op none .pick [(.v 1), (.c (.bool true)), (.v 3)] <|
(.ite (.v 4)
  (.call none 331 [] 1 <|
  (.out 0 [(.v 5)]))
  (.op none (.fcm .eql .f64) [(.v 0), (.c (.flt 0))] <|
  (.ite (.v 5)
    (.call none 330 [(.c (.int (-1)))] 1 <|
    (.out 0 [(.v 6)]))
    (.call none 333 [(.v 0), (.c (.int 1))] 1 <|
    (.ite (.v 6)
      (.out 0 [(.v 0)])
      (.join 4
        (.loop [(.v 0), (.c (.int 0))]
          (.op none (.fcm .geq .f64) [(.v 7), (.c (.flt 4609434218613702656))] <|
          (.ite (.v 9)
            (.op none (.far .quo .f64) [(.v 7), (.c (.flt 4611686018427387904))] <|
            (.op none (.iar .add .i64) [(.v 8), (.c (.int 1))] <|
            (.out 0 [(.v 10), (.v 11)])))
            (.out 1 [(.v 7), (.v 8), (.v 7), (.v 9)]))))
      (.join 4
        (.loop [(.v 7), (.v 8)]
          (.op none (.fcm .lss .f64) [(.v 11), (.c (.flt 4604930618986332160))] <|
          (.ite (.v 13)
            (.op none (.far .mul .f64) [(.v 11), (.c (.flt 4611686018427387904))] <|
            (.op none (.iar .sub .i64) [(.v 12), (.c (.int 1))] <|
            (.out 0 [(.v 14), (.v 15)])))
            (.out 1 [(.v 11), (.v 12), (.v 11), (.v 13)]))))
      (.op none (.far .sub .f64) [(.v 11), (.c (.flt 4607182418800017408))] <|
      (.op none (.far .add .f64) [(.v 11), (.c (.flt 4607182418800017408))] <|
      (.op none (.far .quo .f64) [(.v 15), (.v 16)] <|
      (.op none (.far .mul .f64) [(.v 17), (.v 17)] <|
      (.join 4
        (.loop [(.c (.flt 0)), (.c (.int 25))]
          (.op none (.icm .geq) [(.v 20), (.c (.int 1))] <|
          (.ite (.v 21)
            (.op none (.i2f .f64) [(.v 20)] <|
            (.op none (.far .quo .f64) [(.c (.flt 4607182418800017408)), (.v 22)] <|
            (.op none (.far .mul .f64) [(.v 18), (.v 19)] <|
            (.op none (.far .add .f64) [(.v 23), (.v 24)] <|
            (.op none (.iar .sub .i64) [(.v 20), (.c (.int 2))] <|
            (.out 0 [(.v 25), (.v 26)]))))))
            (.out 1 [(.v 19), (.v 20), (.v 20), (.v 21)]))))
      (.op none (.far .mul .f64) [(.v 17), (.v 19)] <|
      (.op none (.far .mul .f64) [(.c (.flt 4611686018427387904)), (.v 23)] <|
      (.op none (.i2f .f64) [(.v 12)] <|
      (.op none (.far .mul .f64) [(.v 25), (.c (.flt 4604418534313441775))] <|
      (.op none (.far .add .f64) [(.v 24), (.v 26)] <|
      (.out 0 [(.v 27)]))))))))))))))))))))))
def S325L0 (_G : Told) (x18 : D) : List D → Option (Nat × List D) := fun e19 =>
            (gev none (.icm .geq) [(e19.getD 1 .undef), (.int 1)]).bind fun x21 =>
            tif x21 (
              (gev none (.i2f .f64) [(e19.getD 1 .undef)]).bind fun x22 =>
              (gev none (.far .quo .f64) [(.flt 4607182418800017408), x22]).bind fun x23 =>
              (gev none (.far .mul .f64) [x18, (e19.getD 0 .undef)]).bind fun x24 =>
              (gev none (.far .add .f64) [x23, x24]).bind fun x25 =>
              (gev none (.iar .sub .i64) [(e19.getD 1 .undef), (.int 2)]).bind fun x26 =>
              some (0, [x25, x26])) (
              some (1, [(e19.getD 0 .undef), (e19.getD 1 .undef), (e19.getD 1 .undef), x21]))
def S325L1 (_G : Told) : List D → Option (Nat × List D) := fun e11 =>
            (gev none (.fcm .lss .f64) [(e11.getD 0 .undef), (.flt 4604930618986332160)]).bind fun x13 =>
            tif x13 (
              (gev none (.far .mul .f64) [(e11.getD 0 .undef), (.flt 4611686018427387904)]).bind fun x14 =>
              (gev none (.iar .sub .i64) [(e11.getD 1 .undef), (.int 1)]).bind fun x15 =>
              some (0, [x14, x15])) (
              some (1, [(e11.getD 0 .undef), (e11.getD 1 .undef), (e11.getD 0 .undef), x13]))
def S325L2 (_G : Told) : List D → Option (Nat × List D) := fun e7 =>
            (gev none (.fcm .geq .f64) [(e7.getD 0 .undef), (.flt 4609434218613702656)]).bind fun x9 =>
            tif x9 (
              (gev none (.far .quo .f64) [(e7.getD 0 .undef), (.flt 4611686018427387904)]).bind fun x10 =>
              (gev none (.iar .add .i64) [(e7.getD 1 .undef), (.int 1)]).bind fun x11 =>
              some (0, [x10, x11])) (
              some (1, [(e7.getD 0 .undef), (e7.getD 1 .undef), (e7.getD 0 .undef), x9]))
def S325 (G : Told) (fuel : Nat) (x0 : D) : Option (Nat × List D) :=
  (gev none (.fcm .neq .f64) [x0, x0]).bind fun x1 =>
  (gev (some (x1, false)) .id [x0]).bind fun x2 =>
  (gev (some (x1, false)) (.fcm .lss .f64) [x2, (.flt 0)]).bind fun x3 =>
  (gev none .pick [x1, (.bool true), x3]).bind fun x4 =>
  tif x4 (
    (gcall G none 331 [] 1).bind fun e5 =>
    some (0, [(e5.getD 0 .undef)])) (
    (gev none (.fcm .eql .f64) [x0, (.flt 0)]).bind fun x5 =>
    tif x5 (
      (gcall G none 330 [(.int (-1))] 1).bind fun e6 =>
      some (0, [(e6.getD 0 .undef)])) (
      (gcall G none 333 [x0, (.int 1)] 1).bind fun e6 =>
      tif (e6.getD 0 .undef) (
        some (0, [x0])) (
        tjoin 4 (
          iter (tbody 2 (S325L2 G )) fuel [x0, (.int 0)]) fun e7 =>
        tjoin 4 (
          iter (tbody 2 (S325L1 G )) fuel [(e7.getD 0 .undef), (e7.getD 1 .undef)]) fun e11 =>
        (gev none (.far .sub .f64) [(e11.getD 0 .undef), (.flt 4607182418800017408)]).bind fun x15 =>
        (gev none (.far .add .f64) [(e11.getD 0 .undef), (.flt 4607182418800017408)]).bind fun x16 =>
        (gev none (.far .quo .f64) [x15, x16]).bind fun x17 =>
        (gev none (.far .mul .f64) [x17, x17]).bind fun x18 =>
        tjoin 4 (
          iter (tbody 2 (S325L0 G x18)) fuel [(.flt 0), (.int 25)]) fun e19 =>
        (gev none (.far .mul .f64) [x17, (e19.getD 0 .undef)]).bind fun x23 =>
        (gev none (.far .mul .f64) [(.flt 4611686018427387904), x23]).bind fun x24 =>
        (gev none (.i2f .f64) [(e11.getD 1 .undef)]).bind fun x25 =>
        (gev none (.far .mul .f64) [x25, (.flt 4604418534313441775)]).bind fun x26 =>
        (gev none (.far .add .f64) [x24, x26]).bind fun x27 =>
        some (0, [x27]))))
theorem eq325 {G : Told} {fuel : Nat} (x0 : D) : run G fuel T325 [x0] = S325 G fuel x0 := by
  rw [run_eq]; kernel_rfl

def T326 : T :=
(.join 4
  (.loop [(.v 0), (.c (.flt 0))]
    (.op none (.fcm .geq .f64) [(.v 1), (.c (.flt 4609434218613702656))] <|
    (.ite (.v 3)
      (.op none (.far .quo .f64) [(.v 1), (.c (.flt 4611686018427387904))] <|
      (.op none (.far .add .f64) [(.v 2), (.c (.flt 4607182418800017408))] <|
      (.out 0 [(.v 4), (.v 5)])))
      (.out 1 [(.v 1), (.v 2), (.v 1), (.v 3)]))))
(.join 4
  (.loop [(.v 1), (.v 2)]
    (.op none (.fcm .lss .f64) [(.v 5), (.c (.flt 4604930618986332160))] <|
    (.ite (.v 7)
      (.op none (.far .mul .f64) [(.v 5), (.c (.flt 4611686018427387904))] <|
      (.op none (.far .sub .f64) [(.v 6), (.c (.flt 4607182418800017408))] <|
      (.out 0 [(.v 8), (.v 9)])))
      (.out 1 [(.v 5), (.v 6), (.v 5), (.v 7)]))))
(.op none (.far .sub .f64) [(.v 5), (.c (.flt 4607182418800017408))] <|
(.op none (.far .add .f64) [(.v 5), (.c (.flt 4607182418800017408))] <|
(.op none (.far .quo .f64) [(.v 9), (.v 10)] <|
(.op none (.far .mul .f64) [(.v 11), (.v 11)] <|
(.join 4
  (.loop [(.c (.flt 0)), (.c (.flt 4627730092099895296))]
    (.op none (.fcm .geq .f64) [(.v 14), (.c (.flt 4607182418800017408))] <|
    (.ite (.v 15)
      (.op none (.far .quo .f64) [(.c (.flt 4607182418800017408)), (.v 14)] <|
      (.op none (.far .mul .f64) [(.v 12), (.v 13)] <|
      (.op none (.far .add .f64) [(.v 16), (.v 17)] <|
      (.op none (.far .sub .f64) [(.v 14), (.c (.flt 4611686018427387904))] <|
      (.out 0 [(.v 18), (.v 19)])))))
      (.out 1 [(.v 13), (.v 14), (.v 14), (.v 15)]))))
(.op none (.far .mul .f64) [(.v 11), (.v 13)] <|
(.op none (.far .mul .f64) [(.c (.flt 4611686018427387904)), (.v 17)] <|
(.op none (.far .mul .f64) [(.v 6), (.c (.flt 4604418534313441775))] <|
(.op none (.far .add .f64) [(.v 18), (.v 19)] <|
(.out 0 [(.v 20)]))))))))))))
def S326L0 (_G : Told) (x12 : D) : List D → Option (Nat × List D) := fun e13 =>
      (gev none (.fcm .geq .f64) [(e13.getD 1 .undef), (.flt 4607182418800017408)]).bind fun x15 =>
      tif x15 (
        (gev none (.far .quo .f64) [(.flt 4607182418800017408), (e13.getD 1 .undef)]).bind fun x16 =>
        (gev none (.far .mul .f64) [x12, (e13.getD 0 .undef)]).bind fun x17 =>
        (gev none (.far .add .f64) [x16, x17]).bind fun x18 =>
        (gev none (.far .sub .f64) [(e13.getD 1 .undef), (.flt 4611686018427387904)]).bind fun x19 =>
        some (0, [x18, x19])) (
        some (1, [(e13.getD 0 .undef), (e13.getD 1 .undef), (e13.getD 1 .undef), x15]))
def S326L1 (_G : Told) : List D → Option (Nat × List D) := fun e5 =>
      (gev none (.fcm .lss .f64) [(e5.getD 0 .undef), (.flt 4604930618986332160)]).bind fun x7 =>
      tif x7 (
        (gev none (.far .mul .f64) [(e5.getD 0 .undef), (.flt 4611686018427387904)]).bind fun x8 =>
        (gev none (.far .sub .f64) [(e5.getD 1 .undef), (.flt 4607182418800017408)]).bind fun x9 =>
        some (0, [x8, x9])) (
        some (1, [(e5.getD 0 .undef), (e5.getD 1 .undef), (e5.getD 0 .undef), x7]))
def S326L2 (_G : Told) : List D → Option (Nat × List D) := fun e1 =>
      (gev none (.fcm .geq .f64) [(e1.getD 0 .undef), (.flt 4609434218613702656)]).bind fun x3 =>
      tif x3 (
        (gev none (.far .quo .f64) [(e1.getD 0 .undef), (.flt 4611686018427387904)]).bind fun x4 =>
        (gev none (.far .add .f64) [(e1.getD 1 .undef), (.flt 4607182418800017408)]).bind fun x5 =>
        some (0, [x4, x5])) (
        some (1, [(e1.getD 0 .undef), (e1.getD 1 .undef), (e1.getD 0 .undef), x3]))
def S326 (G : Told) (fuel : Nat) (x0 : D) : Option (Nat × List D) :=
  tjoin 4 (
    iter (tbody 2 (S326L2 G )) fuel [x0, (.flt 0)]) fun e1 =>
  tjoin 4 (
    iter (tbody 2 (S326L1 G )) fuel [(e1.getD 0 .undef), (e1.getD 1 .undef)]) fun e5 =>
  (gev none (.far .sub .f64) [(e5.getD 0 .undef), (.flt 4607182418800017408)]).bind fun x9 =>
  (gev none (.far .add .f64) [(e5.getD 0 .undef), (.flt 4607182418800017408)]).bind fun x10 =>
  (gev none (.far .quo .f64) [x9, x10]).bind fun x11 =>
  (gev none (.far .mul .f64) [x11, x11]).bind fun x12 =>
  tjoin 4 (
    iter (tbody 2 (S326L0 G x12)) fuel [(.flt 0), (.flt 4627730092099895296)]) fun e13 =>
  (gev none (.far .mul .f64) [x11, (e13.getD 0 .undef)]).bind fun x17 =>
  (gev none (.far .mul .f64) [(.flt 4611686018427387904), x17]).bind fun x18 =>
  (gev none (.far .mul .f64) [(e5.getD 1 .undef), (.flt 4604418534313441775)]).bind fun x19 =>
  (gev none (.far .add .f64) [x18, x19]).bind fun x20 =>
  some (0, [x20])
theorem eq326 {G : Told} {fuel : Nat} (x0 : D) : run G fuel T326 [x0] = S326 G fuel x0 := by
  rw [run_eq]; kernel_rfl

def T327 : T :=
(.op none (.fcm .eql .f32) [(.v 0), (.c (.flt 0))] <|
(.ite (.v 1)
  (.call none 330 [(.c (.int (-1)))] 1 <|
  (.op none (.f2f .f64 .f32) [(.v 2)] <|
  (.out 0 [(.v 3)])))
  (.op none (.fcm .lss .f32) [(.v 0), (.c (.flt 0))] <|
  (.op (some ((.v 2), false)) .id [(.v 0)] <|
  (.op (some ((.v 2), false)) .id [(.v 0)] <|
  (.op (some ((.v 2), false)) (.fcm .neq .f32) [(.v 3), (.v 4)] <|
  (.op none .pick [(.v 2), (.c (.bool true)), (.v 5)] <|
  (.ite (.v 6)
    (.call none 331 [] 1 <|
    (.op none (.f2f .f64 .f32) [(.v 7)] <|
    (.out 0 [(.v 8)])))
    (.call none 1 [(.v 0)] 1 <|
    (.op none .bnot [(.v 7)] <|
    (.ite (.v 8)
      (.out 0 [(.v 0)])
      (.op none (.f2f .f32 .f64) [(.v 0)] <|
      (.call none 326 [(.v 9)] 1 <|
      (.op none (.f2f .f64 .f32) [(.v 10)] <|
      (.out 0 [(.v 11)])))))))))))))))
def S327 (G : Told) (_fuel : Nat) (x0 : D) : Option (Nat × List D) :=
  (gev none (.fcm .eql .f32) [x0, (.flt 0)]).bind fun x1 =>
  tif x1 (
    (gcall G none 330 [(.int (-1))] 1).bind fun e2 =>
    (gev none (.f2f .f64 .f32) [(e2.getD 0 .undef)]).bind fun x3 =>
    some (0, [x3])) (
    (gev none (.fcm .lss .f32) [x0, (.flt 0)]).bind fun x2 =>
    (gev (some (x2, false)) .id [x0]).bind fun x3 =>
    (gev (some (x2, false)) .id [x0]).bind fun x4 =>
    (gev (some (x2, false)) (.fcm .neq .f32) [x3, x4]).bind fun x5 =>
    (gev none .pick [x2, (.bool true), x5]).bind fun x6 =>
    tif x6 (
      (gcall G none 331 [] 1).bind fun e7 =>
      (gev none (.f2f .f64 .f32) [(e7.getD 0 .undef)]).bind fun x8 =>
      some (0, [x8])) (
      (gcall G none 1 [x0] 1).bind fun e7 =>
      (gev none .bnot [(e7.getD 0 .undef)]).bind fun x8 =>
      tif x8 (
        some (0, [x0])) (
        (gev none (.f2f .f32 .f64) [x0]).bind fun x9 =>
        (gcall G none 326 [x9] 1).bind fun e10 =>
        (gev none (.f2f .f64 .f32) [(e10.getD 0 .undef)]).bind fun x11 =>
        some (0, [x11]))))
theorem eq327 {G : Told} {fuel : Nat} (x0 : D) : run G fuel T327 [x0] = S327 G fuel x0 := by
  rw [run_eq]; kernel_rfl

def T327s : T :=
(.op none (.f2f .f32 .f64) [(.v 0)] <|
(.call none 325 [(.v 1)] 1 <|
(.call none 10 [(.v 2)] 1 <|
(.out 0 [(.v 3)]))))
def S327s (G : Told) (_fuel : Nat) (x0 : D) : Option (Nat × List D) :=
  (gev none (.f2f .f32 .f64) [x0]).bind fun x1 =>
  (gcall G none 325 [x1] 1).bind fun e2 =>
  (gcall G none 10 [(e2.getD 0 .undef)] 1).bind fun e3 =>
  some (0, [(e3.getD 0 .undef)])
theorem eq327s {G : Told} {fuel : Nat} (x0 : D) : run G fuel T327s [x0] = S327s G fuel x0 := by
  rw [run_eq]; kernel_rfl

def T328 : T :=
(.call none 2 [(.v 0)] 1 <|
(.op none .bnot [(.v 1)] <|
(.ite (.v 2)
  (.out 0 [(.c (.flt 0)), (.c (.bool false))])
  (.op none (.far .mul .f32) [(.c (.flt 1077936128)), (.v 0)] <|
  (.op none (.far .mul .f32) [(.c (.flt 1082130432)), (.c (.flt 1078530011))] <|
  (.op none (.far .quo .f32) [(.v 3), (.v 4)] <|
  (.call none 327 [(.v 5)] 1 <|
  (.op none (.far .quo .f32) [(.v 6), (.c (.flt 1077936128))] <|
  (.call none 312 [(.v 7)] 1 <|
  (.out 0 [(.v 8), (.c (.bool true))]))))))))))
def S328 (G : Told) (_fuel : Nat) (x0 : D) : Option (Nat × List D) :=
  (gcall G none 2 [x0] 1).bind fun e1 =>
  (gev none .bnot [(e1.getD 0 .undef)]).bind fun x2 =>
  tif x2 (
    some (0, [(.flt 0), (.bool false)])) (
    (gev none (.far .mul .f32) [(.flt 1077936128), x0]).bind fun x3 =>
    (gev none (.far .mul .f32) [(.flt 1082130432), (.flt 1078530011)]).bind fun x4 =>
    (gev none (.far .quo .f32) [x3, x4]).bind fun x5 =>
    (gcall G none 327 [x5] 1).bind fun e6 =>
    (gev none (.far .quo .f32) [(e6.getD 0 .undef), (.flt 1077936128)]).bind fun x7 =>
    (gcall G none 312 [x7] 1).bind fun e8 =>
    some (0, [(e8.getD 0 .undef), (.bool true)]))
theorem eq328 {G : Told} {fuel : Nat} (x0 : D) : run G fuel T328 [x0] = S328 G fuel x0 := by
  rw [run_eq]; kernel_rfl

def T328s : T :=
(.call none 2 [(.v 0)] 1 <|
(.op none .bnot [(.v 1)] <|
(.ite (.v 2)
  (.out 0 [(.c (.flt 0)), (.c (.bool false))])
  (.op none (.far .mul .f32) [(.c (.flt 1077936128)), (.v 0)] <|
  (.op none (.far .quo .f32) [(.v 3), (.c (.flt 1095307227))] <|
  (.call none 327 [(.v 4)] 1 <|
  (.op none (.far .quo .f32) [(.v 5), (.c (.flt 1077936128))] <|
  (.call none 312 [(.v 6)] 1 <|
  (.out 0 [(.v 7), (.c (.bool true))])))))))))
def S328s (G : Told) (_fuel : Nat) (x0 : D) : Option (Nat × List D) :=
  (gcall G none 2 [x0] 1).bind fun e1 =>
  (gev none .bnot [(e1.getD 0 .undef)]).bind fun x2 =>
  tif x2 (
    some (0, [(.flt 0), (.bool false)])) (
    (gev none (.far .mul .f32) [(.flt 1077936128), x0]).bind fun x3 =>
    (gev none (.far .quo .f32) [x3, (.flt 1095307227)]).bind fun x4 =>
    (gcall G none 327 [x4] 1).bind fun e5 =>
    (gev none (.far .quo .f32) [(e5.getD 0 .undef), (.flt 1077936128)]).bind fun x6 =>
    (gcall G none 312 [x6] 1).bind fun e7 =>
    some (0, [(e7.getD 0 .undef), (.bool true)]))
theorem eq328s {G : Told} {fuel : Nat} (x0 : D) : run G fuel T328s [x0] = S328s G fuel x0 := by
  rw [run_eq]; kernel_rfl

def T329 : T :=
(.call none 328 [(.v 0)] 2 <|
(.call none 328 [(.v 0)] 2 <|
(.op none (.f2f .f32 .f64) [(.v 3)] <|
(.op none (.f2f .f32 .f64) [(.v 1)] <|
(.call none 4 [(.v 5), (.v 6)] 1 <|
(.op none .bnot [(.v 7)] <|
(.op (some ((.v 8), false)) .id [(.v 4)] <|
(.op (some ((.v 8), false)) .id [(.v 2)] <|
(.op (some ((.v 8), false)) .bne [(.v 9), (.v 10)] <|
(.op none .pick [(.v 8), (.c (.bool true)), (.v 11)] <|
(.ite (.v 12)
  (.out 0 [(.c (.bool false))])
  (.out 0 [(.c (.bool true))]))))))))))))
def S329 (G : Told) (_fuel : Nat) (x0 : D) : Option (Nat × List D) :=
  (gcall G none 328 [x0] 2).bind fun e1 =>
  (gcall G none 328 [x0] 2).bind fun e3 =>
  (gev none (.f2f .f32 .f64) [(e3.getD 0 .undef)]).bind fun x5 =>
  (gev none (.f2f .f32 .f64) [(e1.getD 0 .undef)]).bind fun x6 =>
  (gcall G none 4 [x5, x6] 1).bind fun e7 =>
  (gev none .bnot [(e7.getD 0 .undef)]).bind fun x8 =>
  (gev (some (x8, false)) .id [(e3.getD 1 .undef)]).bind fun x9 =>
  (gev (some (x8, false)) .id [(e1.getD 1 .undef)]).bind fun x10 =>
  (gev (some (x8, false)) .bne [x9, x10]).bind fun x11 =>
  (gev none .pick [x8, (.bool true), x11]).bind fun x12 =>
  tif x12 (
    some (0, [(.bool false)])) (
    some (0, [(.bool true)]))
theorem eq329 {G : Told} {fuel : Nat} (x0 : D) : run G fuel T329 [x0] = S329 G fuel x0 := by
  rw [run_eq]; kernel_rfl

def T331 : T :=
(.op none (.b2f .f64) [(.c (.int 9221120237041090561))] <|
(.out 0 [(.v 0)]))
def T332 : T :=
(.op none (.f2b .f64) [(.v 0)] <|
(.op none (.ibt .andNot .u64) [(.v 1), (.c (.int 9223372036854775808))] <|
(.op none (.b2f .f64) [(.v 2)] <|
(.out 0 [(.v 3)]))))
def T333 : T :=
(.op none (.icm .eql) [(.v 1), (.c (.int 0))] <|
(.join 1
  (.ite (.v 2)
    (.call none 332 [(.v 0)] 1 <|
    (.out 0 [(.v 3)]))
    (.op none (.icm .lss) [(.v 1), (.c (.int 0))] <|
    (.join 1
      (.ite (.v 3)
        (.op none (.fneg .f64) [(.v 0)] <|
        (.out 0 [(.v 4)]))
        (.out 0 [(.v 0)]))
    (.out 0 [(.v 4)]))))
(.op none (.fcm .gtr .f64) [(.v 3), (.c (.flt 9218868437227405311))] <|
(.out 0 [(.v 4)]))))
def S333 (G : Told) (_fuel : Nat) (x0 x1 : D) : Option (Nat × List D) :=
  (gev none (.icm .eql) [x1, (.int 0)]).bind fun x2 =>
  tjoin 1 (
    tif x2 (
      (gcall G none 332 [x0] 1).bind fun e3 =>
      some (0, [(e3.getD 0 .undef)])) (
      (gev none (.icm .lss) [x1, (.int 0)]).bind fun x3 =>
      tjoin 1 (
        tif x3 (
          (gev none (.fneg .f64) [x0]).bind fun x4 =>
          some (0, [x4])) (
          some (0, [x0]))) fun e4 =>
      some (0, [(e4.getD 0 .undef)]))) fun e3 =>
  (gev none (.fcm .gtr .f64) [(e3.getD 0 .undef), (.flt 9218868437227405311)]).bind fun x4 =>
  some (0, [x4])
theorem eq333 {G : Told} {fuel : Nat} (x0 x1 : D) : run G fuel T333 [x0, x1] = S333 G fuel x0 x1 := by
  rw [run_eq]; kernel_rfl


theorem run331 {G : Told} : ∀ ds rs, F331 ds = some rs → ∃ fuel, run G fuel T331 ds = some (0, rs) := by intro ds rs h; cases h
theorem run332 {G : Told} : ∀ ds rs, F332 ds = some rs → ∃ fuel, run G fuel T332 ds = some (0, rs) := by intro ds rs h; cases h

attribute [local irreducible] fadd fsub fmul fdiv fneg finP overP feq flt fle fgt fge i2f f2f wide expW

theorem wrap64_small {n : Int} (h1 : -1000000 ≤ n) (h2 : n ≤ 1000000) : IntKind.wrap .i64 n = n := by
  simp [IntKind.wrap, IntKind.bits, IntKind.signed]; omega
theorem c_ge {k : FloatKind} {x y : Nat} {b : Bool} (h : fge k x y = b) : gev none (.fcm .geq k) [.flt x, .flt y] = some (.bool b) := by subst h; rfl
theorem c_lt {k : FloatKind} {x y : Nat} {b : Bool} (h : flt k x y = b) : gev none (.fcm .lss k) [.flt x, .flt y] = some (.bool b) := by subst h; rfl
theorem c_eq {k : FloatKind} {x y : Nat} {b : Bool} (h : feq k x y = b) : gev none (.fcm .eql k) [.flt x, .flt y] = some (.bool b) := by subst h; rfl
theorem c_ne {k : FloatKind} {x y : Nat} {b : Bool} (h : feq k x y = b) : gev none (.fcm .neq k) [.flt x, .flt y] = some (.bool !b) := by subst h; rfl
theorem c_ne' {k : FloatKind} {x y : Nat} {b c : Bool} (h : feq k x y = b) : gev (some (.bool c, c)) (.fcm .neq k) [.flt x, .flt y] = some (.bool !b) := by subst h; cases c <;> rfl
theorem c_div {k : FloatKind} {x y z : Nat} (h : fdiv k x y = z) : gev none (.far .quo k) [.flt x, .flt y] = some (.flt z) := by subst h; rfl
theorem c_mul {k : FloatKind} {x y z : Nat} (h : fmul k x y = z) : gev none (.far .mul k) [.flt x, .flt y] = some (.flt z) := by subst h; rfl
theorem c_add {k : FloatKind} {x y z : Nat} (h : fadd k x y = z) : gev none (.far .add k) [.flt x, .flt y] = some (.flt z) := by subst h; rfl
theorem c_sub {k : FloatKind} {x y z : Nat} (h : fsub k x y = z) : gev none (.far .sub k) [.flt x, .flt y] = some (.flt z) := by subst h; rfl

set_option maxHeartbeats 4000000 in
theorem up326 {G : Told} {y : Nat} (h1 : 4604930618986332160 ≤ y) (h2 : y < 4609434218613702656) : ∀ n m : Nat, n + m ≤ 128 →
    iter (tbody 2 (S326L2 G)) (n + 1) [.flt (y + n * 4503599627370496), .flt (i2f .f64 ((m : Int)))] = some (0, [.flt y, .flt (i2f .f64 (((m + n : Nat) : Int))), .flt y, .bool false])
  | 0, m, _ => by
    rw [Nat.zero_mul, Nat.add_zero, Nat.add_zero]
    refine iter_end (f := 0) (l := 0) (ds' := [.flt y, .flt (i2f .f64 ((m : Int))), .flt y, .bool false]) ?_ rfl
    show S326L2 G [.flt y, .flt (i2f .f64 ((m : Int)))] = _
    unfold S326L2
    have c1 := c_ge (one_nge h2)
    repeat' first
      | with_reducible refine st_ift ?_
      | with_reducible refine st_iff ?_
      | ((with_reducible apply st_some); exact c1)
      | ((with_reducible apply st_callt); assumption; exact rfl; exact rfl; assumption)
      | ((with_reducible apply st_callf); assumption; exact rfl; exact rfl; assumption)
      | ((with_reducible apply st_call); assumption; exact rfl; exact rfl; exact rfl)
      | ((with_reducible apply st_wide); exact rfl; exact rfl)
      | ((with_reducible apply st_skip); exact rfl)
      | ((with_reducible apply st_t); exact rfl; exact rfl)
      | ((with_reducible apply st_f); exact rfl; exact rfl)
      | ((with_reducible apply st_t); exact rfl; assumption)
      | ((with_reducible apply st_f); exact rfl; assumption)
      | ((with_reducible apply st_some); exact rfl)
      | exact rfl
  | n + 1, m, hn => by
    refine iter_go (ds' := [.flt (y + n * 4503599627370496), .flt (i2f .f64 (((m + 1 : Nat) : Int)))]) ?_ (by have := up326 (G := G) h1 h2 n (m + 1) (by omega); rwa [show m + 1 + n = m + (n + 1) by omega] at this)
    show S326L2 G [.flt (y + (n + 1) * 4503599627370496), .flt (i2f .f64 ((m : Int)))] = _
    unfold S326L2
    have c1 := c_ge (one_ge (n := n) h1 (by omega))
    have c2 : gev none (.far .quo .f64) [.flt (y + (n + 1) * 4503599627370496), .flt 4611686018427387904] = some (.flt (y + n * 4503599627370496)) := by
      refine c_div ?_
      rw [show y + (n + 1) * 4503599627370496 = (y + n * 4503599627370496) + 4503599627370496 by omega]
      exact half_D (by omega) (by omega)
    have c3 := c_add (cu1 m (by omega))
    repeat' first
      | with_reducible refine st_ift ?_
      | with_reducible refine st_iff ?_
      | ((with_reducible apply st_some); exact c1)
      | ((with_reducible apply st_some); exact c2)
      | ((with_reducible apply st_some); exact c3)
      | ((with_reducible apply st_callt); assumption; exact rfl; exact rfl; assumption)
      | ((with_reducible apply st_callf); assumption; exact rfl; exact rfl; assumption)
      | ((with_reducible apply st_call); assumption; exact rfl; exact rfl; exact rfl)
      | ((with_reducible apply st_wide); exact rfl; exact rfl)
      | ((with_reducible apply st_skip); exact rfl)
      | ((with_reducible apply st_t); exact rfl; exact rfl)
      | ((with_reducible apply st_f); exact rfl; exact rfl)
      | ((with_reducible apply st_t); exact rfl; assumption)
      | ((with_reducible apply st_f); exact rfl; assumption)
      | ((with_reducible apply st_some); exact rfl)
      | exact rfl

set_option maxHeartbeats 4000000 in
theorem dn326 {G : Told} {y : Nat} (h1 : 4604930618986332160 ≤ y) (h2 : y < 4609434218613702656) : ∀ n m x : Nat, n + m ≤ 149 → x + n * 4503599627370496 = y →
    iter (tbody 2 (S326L1 G)) (n + 1) [.flt x, .flt (i2f .f64 (-(m : Int)))] = some (0, [.flt y, .flt (i2f .f64 (-((m + n : Nat) : Int))), .flt y, .bool false])
  | 0, m, x, _, hx => by
    have hx' : x = y := by omega
    subst hx'
    rw [Nat.add_zero]
    refine iter_end (f := 0) (l := 0) (ds' := [.flt x, .flt (i2f .f64 (-(m : Int))), .flt x, .bool false]) ?_ rfl
    show S326L1 G [.flt x, .flt (i2f .f64 (-(m : Int)))] = _
    unfold S326L1
    have c1 := c_lt (thr_nlt h1 h2)
    repeat' first
      | with_reducible refine st_ift ?_
      | with_reducible refine st_iff ?_
      | ((with_reducible apply st_some); exact c1)
      | ((with_reducible apply st_callt); assumption; exact rfl; exact rfl; assumption)
      | ((with_reducible apply st_callf); assumption; exact rfl; exact rfl; assumption)
      | ((with_reducible apply st_call); assumption; exact rfl; exact rfl; exact rfl)
      | ((with_reducible apply st_wide); exact rfl; exact rfl)
      | ((with_reducible apply st_skip); exact rfl)
      | ((with_reducible apply st_t); exact rfl; exact rfl)
      | ((with_reducible apply st_f); exact rfl; exact rfl)
      | ((with_reducible apply st_t); exact rfl; assumption)
      | ((with_reducible apply st_f); exact rfl; assumption)
      | ((with_reducible apply st_some); exact rfl)
      | exact rfl
  | n + 1, m, x, hn, hx => by
    refine iter_go (ds' := [.flt (x + 4503599627370496), .flt (i2f .f64 (-((m + 1 : Nat) : Int)))]) ?_ (by have := dn326 (G := G) h1 h2 n (m + 1) (x + 4503599627370496) (by omega) (by omega); rwa [show m + 1 + n = m + (n + 1) by omega] at this)
    show S326L1 G [.flt x, .flt (i2f .f64 (-(m : Int)))] = _
    unfold S326L1
    have c1 := c_lt (thr_lt (x := x) (by omega))
    have c2 := c_mul (dbl_D (y := x) (by omega) (by omega))
    have c3 := c_sub (cd1 m (by omega))
    repeat' first
      | with_reducible refine st_ift ?_
      | with_reducible refine st_iff ?_
      | ((with_reducible apply st_some); exact c1)
      | ((with_reducible apply st_some); exact c2)
      | ((with_reducible apply st_some); exact c3)
      | ((with_reducible apply st_callt); assumption; exact rfl; exact rfl; assumption)
      | ((with_reducible apply st_callf); assumption; exact rfl; exact rfl; assumption)
      | ((with_reducible apply st_call); assumption; exact rfl; exact rfl; exact rfl)
      | ((with_reducible apply st_wide); exact rfl; exact rfl)
      | ((with_reducible apply st_skip); exact rfl)
      | ((with_reducible apply st_t); exact rfl; exact rfl)
      | ((with_reducible apply st_f); exact rfl; exact rfl)
      | ((with_reducible apply st_t); exact rfl; assumption)
      | ((with_reducible apply st_f); exact rfl; assumption)
      | ((with_reducible apply st_some); exact rfl)
      | exact rfl

set_option maxHeartbeats 4000000 in
theorem ser326 {G : Told} (u : Nat) : ∀ n q, n ≤ 13 → iter (tbody 2 (S326L0 G (.flt u))) (n + 1) [.flt q, .flt (i2f .f64 (2 * (n : Int) - 1))] = some (0, [.flt (qGo u n q), .flt (i2f .f64 (2 * ((0 : Nat) : Int) - 1)), .flt (i2f .f64 (2 * ((0 : Nat) : Int) - 1)), .bool false])
  | 0, q, _ => by
    refine iter_end (f := 0) (l := 0) (ds' := [.flt q, .flt (i2f .f64 (2 * ((0 : Nat) : Int) - 1)), .flt (i2f .f64 (2 * ((0 : Nat) : Int) - 1)), .bool false]) ?_ rfl
    show S326L0 G (.flt u) [.flt q, .flt (i2f .f64 (2 * ((0 : Nat) : Int) - 1))] = _
    unfold S326L0
    have c1 := c_ge cq0
    repeat' first
      | with_reducible refine st_ift ?_
      | with_reducible refine st_iff ?_
      | ((with_reducible apply st_some); exact c1)
      | ((with_reducible apply st_callt); assumption; exact rfl; exact rfl; assumption)
      | ((with_reducible apply st_callf); assumption; exact rfl; exact rfl; assumption)
      | ((with_reducible apply st_call); assumption; exact rfl; exact rfl; exact rfl)
      | ((with_reducible apply st_wide); exact rfl; exact rfl)
      | ((with_reducible apply st_skip); exact rfl)
      | ((with_reducible apply st_t); exact rfl; exact rfl)
      | ((with_reducible apply st_f); exact rfl; exact rfl)
      | ((with_reducible apply st_t); exact rfl; assumption)
      | ((with_reducible apply st_f); exact rfl; assumption)
      | ((with_reducible apply st_some); exact rfl)
      | exact rfl
  | n + 1, q, hn => by
    rw [qGo_succ]
    refine iter_go (ds' := [.flt (qStep u n q), .flt (i2f .f64 (2 * (n : Int) - 1))]) ?_ (ser326 u n _ (by omega))
    rw [show 2 * ((n + 1 : Nat) : Int) - 1 = ((2 * n + 1 : Nat) : Int) by omega]
    show S326L0 G (.flt u) [.flt q, .flt (i2f .f64 ((2 * n + 1 : Nat) : Int))] = _
    unfold S326L0
    have c1 := c_ge (cq n (by omega)).1
    have c2 := c_sub (cq n (by omega)).2
    have c3 : gev none (.far .add .f64) [.flt (fdiv .f64 4607182418800017408 (i2f .f64 ((2 * n + 1 : Nat) : Int))), .flt (fmul .f64 u q)] = some (.flt (qStep u n q)) := rfl
    repeat' first
      | with_reducible refine st_ift ?_
      | with_reducible refine st_iff ?_
      | ((with_reducible apply st_some); exact c1)
      | ((with_reducible apply st_some); exact c2)
      | ((with_reducible apply st_some); exact c3)
      | ((with_reducible apply st_callt); assumption; exact rfl; exact rfl; assumption)
      | ((with_reducible apply st_callf); assumption; exact rfl; exact rfl; assumption)
      | ((with_reducible apply st_call); assumption; exact rfl; exact rfl; exact rfl)
      | ((with_reducible apply st_wide); exact rfl; exact rfl)
      | ((with_reducible apply st_skip); exact rfl)
      | ((with_reducible apply st_t); exact rfl; exact rfl)
      | ((with_reducible apply st_f); exact rfl; exact rfl)
      | ((with_reducible apply st_t); exact rfl; assumption)
      | ((with_reducible apply st_f); exact rfl; assumption)
      | ((with_reducible apply st_some); exact rfl)
      | exact rfl

set_option maxHeartbeats 4000000 in
theorem up325 {G : Told} {y : Nat} (h1 : 4604930618986332160 ≤ y) (h2 : y < 4609434218613702656) : ∀ n m : Nat, n + m ≤ 128 →
    iter (tbody 2 (S325L2 G)) (n + 1) [.flt (y + n * 4503599627370496), .int ((m : Int))] = some (0, [.flt y, .int (((m + n : Nat) : Int)), .flt y, .bool false])
  | 0, m, _ => by
    rw [Nat.zero_mul, Nat.add_zero, Nat.add_zero]
    refine iter_end (f := 0) (l := 0) (ds' := [.flt y, .int ((m : Int)), .flt y, .bool false]) ?_ rfl
    show S325L2 G [.flt y, .int ((m : Int))] = _
    unfold S325L2
    have c1 := c_ge (one_nge h2)
    repeat' first
      | with_reducible refine st_ift ?_
      | with_reducible refine st_iff ?_
      | ((with_reducible apply st_some); exact c1)
      | ((with_reducible apply st_callt); assumption; exact rfl; exact rfl; assumption)
      | ((with_reducible apply st_callf); assumption; exact rfl; exact rfl; assumption)
      | ((with_reducible apply st_call); assumption; exact rfl; exact rfl; exact rfl)
      | ((with_reducible apply st_wide); exact rfl; exact rfl)
      | ((with_reducible apply st_skip); exact rfl)
      | ((with_reducible apply st_t); exact rfl; exact rfl)
      | ((with_reducible apply st_f); exact rfl; exact rfl)
      | ((with_reducible apply st_t); exact rfl; assumption)
      | ((with_reducible apply st_f); exact rfl; assumption)
      | ((with_reducible apply st_some); exact rfl)
      | exact rfl
  | n + 1, m, hn => by
    refine iter_go (ds' := [.flt (y + n * 4503599627370496), .int (((m + 1 : Nat) : Int))]) ?_ (by have := up325 (G := G) h1 h2 n (m + 1) (by omega); rwa [show m + 1 + n = m + (n + 1) by omega] at this)
    show S325L2 G [.flt (y + (n + 1) * 4503599627370496), .int ((m : Int))] = _
    unfold S325L2
    have c1 := c_ge (one_ge (n := n) h1 (by omega))
    have c2 : gev none (.far .quo .f64) [.flt (y + (n + 1) * 4503599627370496), .flt 4611686018427387904] = some (.flt (y + n * 4503599627370496)) := by
      refine c_div ?_
      rw [show y + (n + 1) * 4503599627370496 = (y + n * 4503599627370496) + 4503599627370496 by omega]
      exact half_D (by omega) (by omega)
    have c3 := add1n (i := m) (by omega)
    repeat' first
      | with_reducible refine st_ift ?_
      | with_reducible refine st_iff ?_
      | ((with_reducible apply st_some); exact c1)
      | ((with_reducible apply st_some); exact c2)
      | ((with_reducible apply st_some); exact c3)
      | ((with_reducible apply st_callt); assumption; exact rfl; exact rfl; assumption)
      | ((with_reducible apply st_callf); assumption; exact rfl; exact rfl; assumption)
      | ((with_reducible apply st_call); assumption; exact rfl; exact rfl; exact rfl)
      | ((with_reducible apply st_wide); exact rfl; exact rfl)
      | ((with_reducible apply st_skip); exact rfl)
      | ((with_reducible apply st_t); exact rfl; exact rfl)
      | ((with_reducible apply st_f); exact rfl; exact rfl)
      | ((with_reducible apply st_t); exact rfl; assumption)
      | ((with_reducible apply st_f); exact rfl; assumption)
      | ((with_reducible apply st_some); exact rfl)
      | exact rfl

set_option maxHeartbeats 4000000 in
theorem dn325 {G : Told} {y : Nat} (h1 : 4604930618986332160 ≤ y) (h2 : y < 4609434218613702656) : ∀ n m x : Nat, n + m ≤ 149 → x + n * 4503599627370496 = y →
    iter (tbody 2 (S325L1 G)) (n + 1) [.flt x, .int (-(m : Int))] = some (0, [.flt y, .int (-((m + n : Nat) : Int)), .flt y, .bool false])
  | 0, m, x, _, hx => by
    have hx' : x = y := by omega
    subst hx'
    rw [Nat.add_zero]
    refine iter_end (f := 0) (l := 0) (ds' := [.flt x, .int (-(m : Int)), .flt x, .bool false]) ?_ rfl
    show S325L1 G [.flt x, .int (-(m : Int))] = _
    unfold S325L1
    have c1 := c_lt (thr_nlt h1 h2)
    repeat' first
      | with_reducible refine st_ift ?_
      | with_reducible refine st_iff ?_
      | ((with_reducible apply st_some); exact c1)
      | ((with_reducible apply st_callt); assumption; exact rfl; exact rfl; assumption)
      | ((with_reducible apply st_callf); assumption; exact rfl; exact rfl; assumption)
      | ((with_reducible apply st_call); assumption; exact rfl; exact rfl; exact rfl)
      | ((with_reducible apply st_wide); exact rfl; exact rfl)
      | ((with_reducible apply st_skip); exact rfl)
      | ((with_reducible apply st_t); exact rfl; exact rfl)
      | ((with_reducible apply st_f); exact rfl; exact rfl)
      | ((with_reducible apply st_t); exact rfl; assumption)
      | ((with_reducible apply st_f); exact rfl; assumption)
      | ((with_reducible apply st_some); exact rfl)
      | exact rfl
  | n + 1, m, x, hn, hx => by
    refine iter_go (ds' := [.flt (x + 4503599627370496), .int (-((m + 1 : Nat) : Int))]) ?_ (by have := dn325 (G := G) h1 h2 n (m + 1) (x + 4503599627370496) (by omega) (by omega); rwa [show m + 1 + n = m + (n + 1) by omega] at this)
    show S325L1 G [.flt x, .int (-(m : Int))] = _
    unfold S325L1
    have c1 := c_lt (thr_lt (x := x) (by omega))
    have c2 := c_mul (dbl_D (y := x) (by omega) (by omega))
    have c3 := show gev none (.iar .sub .i64) [.int (-(m : Int)), .int 1] = some (.int (-((m + 1 : Nat) : Int))) from by
      have e := wrap64_small (n := -(m : Int) - 1) (by omega) (by omega)
      simp only [gev, gok, if_true, Prim.ev, iarith, Option.map_some, e]
      congr 2
      omega
    repeat' first
      | with_reducible refine st_ift ?_
      | with_reducible refine st_iff ?_
      | ((with_reducible apply st_some); exact c1)
      | ((with_reducible apply st_some); exact c2)
      | ((with_reducible apply st_some); exact c3)
      | ((with_reducible apply st_callt); assumption; exact rfl; exact rfl; assumption)
      | ((with_reducible apply st_callf); assumption; exact rfl; exact rfl; assumption)
      | ((with_reducible apply st_call); assumption; exact rfl; exact rfl; exact rfl)
      | ((with_reducible apply st_wide); exact rfl; exact rfl)
      | ((with_reducible apply st_skip); exact rfl)
      | ((with_reducible apply st_t); exact rfl; exact rfl)
      | ((with_reducible apply st_f); exact rfl; exact rfl)
      | ((with_reducible apply st_t); exact rfl; assumption)
      | ((with_reducible apply st_f); exact rfl; assumption)
      | ((with_reducible apply st_some); exact rfl)
      | exact rfl

set_option maxHeartbeats 4000000 in
theorem ser325 {G : Told} (u : Nat) : ∀ n q, n ≤ 13 → iter (tbody 2 (S325L0 G (.flt u))) (n + 1) [.flt q, .int (2 * (n : Int) - 1)] = some (0, [.flt (qGo u n q), .int (2 * ((0 : Nat) : Int) - 1), .int (2 * ((0 : Nat) : Int) - 1), .bool false])
  | 0, q, _ => by
    exact iter_end (f := 0) (l := 0) rfl rfl
  | n + 1, q, hn => by
    rw [qGo_succ]
    refine iter_go (ds' := [.flt (qStep u n q), .int (2 * (n : Int) - 1)]) ?_ (ser325 u n _ (by omega))
    rw [show 2 * ((n + 1 : Nat) : Int) - 1 = ((2 * n + 1 : Nat) : Int) by omega]
    show S325L0 G (.flt u) [.flt q, .int ((2 * n + 1 : Nat) : Int)] = _
    unfold S325L0
    have c1 : gev none (.icm .geq) [.int ((2 * n + 1 : Nat) : Int), .int 1] = some (.bool true) := by simp [gev, gok, Prim.ev, icmp]; omega
    have c2 : gev none (.iar .sub .i64) [.int ((2 * n + 1 : Nat) : Int), .int 2] = some (.int (2 * (n : Int) - 1)) := by
      have e := wrap64_small (n := ((2 * n + 1 : Nat) : Int) - 2) (by omega) (by omega)
      simp only [gev, gok, if_true, Prim.ev, iarith, Option.map_some, e]
      congr 2
      omega
    have c3 : gev none (.far .add .f64) [.flt (fdiv .f64 4607182418800017408 (i2f .f64 ((2 * n + 1 : Nat) : Int))), .flt (fmul .f64 u q)] = some (.flt (qStep u n q)) := rfl
    repeat' first
      | with_reducible refine st_ift ?_
      | with_reducible refine st_iff ?_
      | ((with_reducible apply st_some); exact c1)
      | ((with_reducible apply st_some); exact c2)
      | ((with_reducible apply st_some); exact c3)
      | ((with_reducible apply st_callt); assumption; exact rfl; exact rfl; assumption)
      | ((with_reducible apply st_callf); assumption; exact rfl; exact rfl; assumption)
      | ((with_reducible apply st_call); assumption; exact rfl; exact rfl; exact rfl)
      | ((with_reducible apply st_wide); exact rfl; exact rfl)
      | ((with_reducible apply st_skip); exact rfl)
      | ((with_reducible apply st_t); exact rfl; exact rfl)
      | ((with_reducible apply st_f); exact rfl; exact rfl)
      | ((with_reducible apply st_t); exact rfl; assumption)
      | ((with_reducible apply st_f); exact rfl; assumption)
      | ((with_reducible apply st_some); exact rfl)
      | exact rfl

set_option maxHeartbeats 4000000 in
theorem run326 {G : Told} : ∀ ds rs, F326 ds = some rs → ∃ fuel, run G fuel T326 ds = some (0, rs) := by
  intro ds rs h
  unfold F326 at h
  split at h
  case h_2 => cases h
  rename_i x
  split at h
  case isFalse => cases h
  simp only [Option.some.injEq] at h
  subst h
  refine ⟨150, ?_⟩
  rw [eq326]
  unfold S326
  have hl : lgR x = true := by assumption
  obtain ⟨y, e, hn⟩ := log_norm hl
  rw [logF_eq hn]
  obtain ⟨h1, h2, h3, h4, h5⟩ := hn
  have hser := ser326 (G := G) (fmul .f64 (quotP y) (quotP y)) 13 0 (Nat.le_refl _)
  rw [show (2 * ((13 : Nat) : Int) - 1) = 25 by rfl, cq13] at hser
  have d1 : gev none (.far .quo .f64) [.flt (fsub .f64 y 4607182418800017408), .flt (fadd .f64 y 4607182418800017408)] = some (.flt (quotP y)) := rfl
  have d2 : gev none (.far .add .f64) [.flt (fmul .f64 4611686018427387904 (fmul .f64 (quotP y) (qGo (fmul .f64 (quotP y) (quotP y)) 13 0))), .flt (fmul .f64 (i2f .f64 e) 4604418534313441775)] = some (.flt (logW y e)) := rfl
  rcases Int.le_total 0 e with he | he
  · obtain ⟨n, rfl⟩ := Int.eq_ofNat_of_zero_le he
    have hx : x = y + n * 4503599627370496 := by omega
    subst hx
    have ha := up326 (G := G) h1 h2 n 0 (by omega)
    have hb : iter (tbody 2 (S326L1 G)) 1 [.flt y, .flt (i2f .f64 ((n : Int)))] = some (0, [.flt y, .flt (i2f .f64 ((n : Int))), .flt y, .bool false]) := by
      refine iter_end (f := 0) (l := 0) (ds' := [.flt y, .flt (i2f .f64 ((n : Int))), .flt y, .bool false]) ?_ rfl
      show S326L1 G [.flt y, .flt (i2f .f64 ((n : Int)))] = _
      unfold S326L1
      have c1 := c_lt (thr_nlt h1 h2)
      repeat' first
        | with_reducible refine st_ift ?_
        | with_reducible refine st_iff ?_
        | ((with_reducible apply st_some); exact c1)
        | ((with_reducible apply st_callt); assumption; exact rfl; exact rfl; assumption)
        | ((with_reducible apply st_callf); assumption; exact rfl; exact rfl; assumption)
        | ((with_reducible apply st_call); assumption; exact rfl; exact rfl; exact rfl)
        | ((with_reducible apply st_wide); exact rfl; exact rfl)
        | ((with_reducible apply st_skip); exact rfl)
        | ((with_reducible apply st_t); exact rfl; exact rfl)
        | ((with_reducible apply st_f); exact rfl; exact rfl)
        | ((with_reducible apply st_t); exact rfl; assumption)
        | ((with_reducible apply st_f); exact rfl; assumption)
        | ((with_reducible apply st_some); exact rfl)
        | exact rfl
    rw [Nat.zero_add] at ha
    rw [Int.ofNat_zero, c0] at ha
    repeat' first
      | with_reducible refine st_ift ?_
      | with_reducible refine st_iff ?_
      | ((with_reducible apply st_join); exact (iter_fuel ha); exact rfl)
      | ((with_reducible apply st_join); exact (iter_fuel hb); exact rfl)
      | ((with_reducible apply st_join); exact (iter_fuel hser); exact rfl)
      | ((with_reducible apply st_some); exact d1)
      | ((with_reducible apply st_some); exact d2)
      | ((with_reducible apply st_callt); assumption; exact rfl; exact rfl; assumption)
      | ((with_reducible apply st_callf); assumption; exact rfl; exact rfl; assumption)
      | ((with_reducible apply st_call); assumption; exact rfl; exact rfl; exact rfl)
      | ((with_reducible apply st_wide); exact rfl; exact rfl)
      | ((with_reducible apply st_skip); exact rfl)
      | ((with_reducible apply st_t); exact rfl; exact rfl)
      | ((with_reducible apply st_f); exact rfl; exact rfl)
      | ((with_reducible apply st_t); exact rfl; assumption)
      | ((with_reducible apply st_f); exact rfl; assumption)
      | ((with_reducible apply st_some); exact rfl)
      | exact rfl
  · obtain ⟨n, hne⟩ := Int.eq_ofNat_of_zero_le (a := -e) (by omega)
    have he' : e = -(n : Int) := by omega
    subst he'
    have hb := dn326 (G := G) h1 h2 n 0 x (by omega) (by omega)
    have ha : iter (tbody 2 (S326L2 G)) 1 [.flt x, .flt 0] = some (0, [.flt x, .flt 0, .flt x, .bool false]) := by
      refine iter_end (f := 0) (l := 0) (ds' := [.flt x, .flt 0, .flt x, .bool false]) ?_ rfl
      show S326L2 G [.flt x, .flt 0] = _
      unfold S326L2
      have c1 := c_ge (one_nge (y := x) (by omega))
      repeat' first
        | with_reducible refine st_ift ?_
        | with_reducible refine st_iff ?_
        | ((with_reducible apply st_some); exact c1)
        | ((with_reducible apply st_callt); assumption; exact rfl; exact rfl; assumption)
        | ((with_reducible apply st_callf); assumption; exact rfl; exact rfl; assumption)
        | ((with_reducible apply st_call); assumption; exact rfl; exact rfl; exact rfl)
        | ((with_reducible apply st_wide); exact rfl; exact rfl)
        | ((with_reducible apply st_skip); exact rfl)
        | ((with_reducible apply st_t); exact rfl; exact rfl)
        | ((with_reducible apply st_f); exact rfl; exact rfl)
        | ((with_reducible apply st_t); exact rfl; assumption)
        | ((with_reducible apply st_f); exact rfl; assumption)
        | ((with_reducible apply st_some); exact rfl)
        | exact rfl
    rw [Nat.zero_add] at hb
    rw [show -((0 : Nat) : Int) = 0 by rfl, c0] at hb
    repeat' first
      | with_reducible refine st_ift ?_
      | with_reducible refine st_iff ?_
      | ((with_reducible apply st_join); exact (iter_fuel ha); exact rfl)
      | ((with_reducible apply st_join); exact (iter_fuel hb); exact rfl)
      | ((with_reducible apply st_join); exact (iter_fuel hser); exact rfl)
      | ((with_reducible apply st_some); exact d1)
      | ((with_reducible apply st_some); exact d2)
      | ((with_reducible apply st_callt); assumption; exact rfl; exact rfl; assumption)
      | ((with_reducible apply st_callf); assumption; exact rfl; exact rfl; assumption)
      | ((with_reducible apply st_call); assumption; exact rfl; exact rfl; exact rfl)
      | ((with_reducible apply st_wide); exact rfl; exact rfl)
      | ((with_reducible apply st_skip); exact rfl)
      | ((with_reducible apply st_t); exact rfl; exact rfl)
      | ((with_reducible apply st_f); exact rfl; exact rfl)
      | ((with_reducible apply st_t); exact rfl; assumption)
      | ((with_reducible apply st_f); exact rfl; assumption)
      | ((with_reducible apply st_some); exact rfl)
      | exact rfl

theorem feq_lg {x : Nat} (h : lgR x = true) : feq .f64 x x = true ∧ flt .f64 x 0 = false ∧ feq .f64 x 0 = false ∧ fgt .f64 x 9218868437227405311 = false := by
  unfold lgR at h
  rw [decide_eq_true_eq] at h
  have hx : rk .f64 x < inf .f64 := finD (by omega)
  have h0 : rk .f64 0 < inf .f64 := rk0 _
  have hm : rk .f64 9218868437227405311 < inf .f64 := by decide
  have s0 : sv .f64 0 = 0 := sv_zero _
  have sx : sv .f64 x = (V double x : Int) := sv_smallD (by omega)
  have sm : sv .f64 9218868437227405311 = (V double 9218868437227405311 : Int) := sv_smallD (by omega)
  have hp : 0 < V double x := V_pos (by omega)
  have hle : V double x ≤ V double 9218868437227405311 := V_mono double (by omega)
  refine ⟨?_, ?_, ?_, ?_⟩
  · rw [feq_R hx hx]; simp
  · rw [flt_R hx h0, s0, sx, decide_eq_false_iff_not]; omega
  · rw [feq_R hx h0, s0, sx, decide_eq_false_iff_not]; omega
  · rw [fgt_R hx hm, sx, sm, decide_eq_false_iff_not]; omega
theorem z_facts : feq .f64 0 0 = true ∧ flt .f64 0 0 = false := by decide +kernel
theorem i_facts : feq .f64 9218868437227405312 9218868437227405312 = true ∧ flt .f64 9218868437227405312 0 = false ∧ feq .f64 9218868437227405312 0 = false ∧ fgt .f64 9218868437227405312 9218868437227405311 = true := by decide +kernel

set_option maxHeartbeats 4000000 in
theorem run325 {G : Told} (g330 : G 330 = F330) (g333 : G 333 = F333) : ∀ ds rs, F325 ds = some rs → ∃ fuel, run G fuel T325 ds = some (0, rs) := by
  intro ds rs h
  unfold F325 at h
  split at h
  case h_2 => cases h
  rename_i x
  refine ⟨150, ?_⟩
  rw [eq325]
  unfold S325
  split at h
  · rename_i hx
    subst hx
    simp only [Option.some.injEq] at h
    subst h
    have c1 := c_ne z_facts.1
    have c2 : gev (some (.bool false, false)) (.fcm .lss .f64) [.flt 0, .flt 0] = some (.bool false) := c_lt z_facts.2
    have c3 := c_eq z_facts.1
    have i3 : F330 [.int (-1)] = some [.flt 18442240474082181120] := rfl
    repeat' first
      | with_reducible refine st_ift ?_
      | with_reducible refine st_iff ?_
      | ((with_reducible apply st_call); exact g330; exact rfl; exact i3; exact rfl)
      | ((with_reducible apply st_some); exact c1)
      | ((with_reducible apply st_some); exact c2)
      | ((with_reducible apply st_some); exact c3)
      | ((with_reducible apply st_callt); assumption; exact rfl; exact rfl; assumption)
      | ((with_reducible apply st_callf); assumption; exact rfl; exact rfl; assumption)
      | ((with_reducible apply st_call); assumption; exact rfl; exact rfl; exact rfl)
      | ((with_reducible apply st_wide); exact rfl; exact rfl)
      | ((with_reducible apply st_skip); exact rfl)
      | ((with_reducible apply st_t); exact rfl; exact rfl)
      | ((with_reducible apply st_f); exact rfl; exact rfl)
      | ((with_reducible apply st_t); exact rfl; assumption)
      | ((with_reducible apply st_f); exact rfl; assumption)
      | ((with_reducible apply st_some); exact rfl)
      | exact rfl
  split at h
  · rename_i hx
    subst hx
    simp only [Option.some.injEq] at h
    subst h
    obtain ⟨f1, f2, f3, f4⟩ := i_facts
    have c1 := c_ne f1
    have c2 : gev (some (.bool false, false)) (.fcm .lss .f64) [.flt 9218868437227405312, .flt 0] = some (.bool false) := c_lt f2
    have c3 := c_eq f3
    have c4 : F333 [.flt 9218868437227405312, .int 1] = some [.bool true] := by unfold F333; simp only [if_true, f4]
    repeat' first
      | with_reducible refine st_ift ?_
      | with_reducible refine st_iff ?_
      | ((with_reducible apply st_call); exact g333; exact rfl; exact c4; exact rfl)
      | (refine (st_ift ?_ : tif (.bool true) _ _ = _))
      | ((with_reducible apply st_some); exact c1)
      | ((with_reducible apply st_some); exact c2)
      | ((with_reducible apply st_some); exact c3)
      | ((with_reducible apply st_callt); assumption; exact rfl; exact rfl; assumption)
      | ((with_reducible apply st_callf); assumption; exact rfl; exact rfl; assumption)
      | ((with_reducible apply st_call); assumption; exact rfl; exact rfl; exact rfl)
      | ((with_reducible apply st_wide); exact rfl; exact rfl)
      | ((with_reducible apply st_skip); exact rfl)
      | ((with_reducible apply st_t); exact rfl; exact rfl)
      | ((with_reducible apply st_f); exact rfl; exact rfl)
      | ((with_reducible apply st_t); exact rfl; assumption)
      | ((with_reducible apply st_f); exact rfl; assumption)
      | ((with_reducible apply st_some); exact rfl)
      | exact rfl
  split at h
  case isFalse => cases h
  simp only [Option.some.injEq] at h
  subst h
  obtain ⟨f1, f2, f3, f4⟩ := feq_lg (x := x) (by assumption)
  have c1 := c_ne f1
  have c2 : gev (some (.bool false, false)) (.fcm .lss .f64) [.flt x, .flt 0] = some (.bool false) := c_lt f2
  have c3 := c_eq f3
  have c4 : F333 [.flt x, .int 1] = some [.bool false] := by unfold F333; simp only [if_true, f4]
  have hl : lgR x = true := by assumption
  obtain ⟨y, e, hn⟩ := log_norm hl
  rw [logF_eq hn]
  obtain ⟨h1, h2, h3, h4, h5⟩ := hn
  have hser := ser325 (G := G) (fmul .f64 (quotP y) (quotP y)) 13 0 (Nat.le_refl _)
  rw [show (2 * ((13 : Nat) : Int) - 1) = 25 by rfl] at hser
  have d1 : gev none (.far .quo .f64) [.flt (fsub .f64 y 4607182418800017408), .flt (fadd .f64 y 4607182418800017408)] = some (.flt (quotP y)) := rfl
  have d2 : gev none (.far .add .f64) [.flt (fmul .f64 4611686018427387904 (fmul .f64 (quotP y) (qGo (fmul .f64 (quotP y) (quotP y)) 13 0))), .flt (fmul .f64 (i2f .f64 e) 4604418534313441775)] = some (.flt (logW y e)) := rfl
  rcases Int.le_total 0 e with he | he
  · obtain ⟨n, rfl⟩ := Int.eq_ofNat_of_zero_le he
    have hx : x = y + n * 4503599627370496 := by omega
    subst hx
    have ha := up325 (G := G) h1 h2 n 0 (by omega)
    have hb : iter (tbody 2 (S325L1 G)) 1 [.flt y, .int ((n : Int))] = some (0, [.flt y, .int ((n : Int)), .flt y, .bool false]) := by
      refine iter_end (f := 0) (l := 0) (ds' := [.flt y, .int ((n : Int)), .flt y, .bool false]) ?_ rfl
      show S325L1 G [.flt y, .int ((n : Int))] = _
      unfold S325L1
      have c1 := c_lt (thr_nlt h1 h2)
      repeat' first
        | with_reducible refine st_ift ?_
        | with_reducible refine st_iff ?_
        | ((with_reducible apply st_some); exact c1)
        | ((with_reducible apply st_callt); assumption; exact rfl; exact rfl; assumption)
        | ((with_reducible apply st_callf); assumption; exact rfl; exact rfl; assumption)
        | ((with_reducible apply st_call); assumption; exact rfl; exact rfl; exact rfl)
        | ((with_reducible apply st_wide); exact rfl; exact rfl)
        | ((with_reducible apply st_skip); exact rfl)
        | ((with_reducible apply st_t); exact rfl; exact rfl)
        | ((with_reducible apply st_f); exact rfl; exact rfl)
        | ((with_reducible apply st_t); exact rfl; assumption)
        | ((with_reducible apply st_f); exact rfl; assumption)
        | ((with_reducible apply st_some); exact rfl)
        | exact rfl
    rw [Nat.zero_add] at ha
    rw [Int.ofNat_zero] at ha
    repeat' first
      | with_reducible refine st_ift ?_
      | with_reducible refine st_iff ?_
      | ((with_reducible apply st_some); exact c1)
      | ((with_reducible apply st_some); exact c2)
      | ((with_reducible apply st_some); exact c3)
      | ((with_reducible apply st_call); exact g333; exact rfl; exact c4; exact rfl)
      | (refine (st_iff ?_ : tif (.bool false) _ _ = _))
      | ((with_reducible apply st_join); exact (iter_fuel ha); exact rfl)
      | ((with_reducible apply st_join); exact (iter_fuel hb); exact rfl)
      | ((with_reducible apply st_join); exact (iter_fuel hser); exact rfl)
      | ((with_reducible apply st_some); exact d1)
      | ((with_reducible apply st_some); exact d2)
      | ((with_reducible apply st_callt); assumption; exact rfl; exact rfl; assumption)
      | ((with_reducible apply st_callf); assumption; exact rfl; exact rfl; assumption)
      | ((with_reducible apply st_call); assumption; exact rfl; exact rfl; exact rfl)
      | ((with_reducible apply st_wide); exact rfl; exact rfl)
      | ((with_reducible apply st_skip); exact rfl)
      | ((with_reducible apply st_t); exact rfl; exact rfl)
      | ((with_reducible apply st_f); exact rfl; exact rfl)
      | ((with_reducible apply st_t); exact rfl; assumption)
      | ((with_reducible apply st_f); exact rfl; assumption)
      | ((with_reducible apply st_some); exact rfl)
      | exact rfl
  · obtain ⟨n, hne⟩ := Int.eq_ofNat_of_zero_le (a := -e) (by omega)
    have he' : e = -(n : Int) := by omega
    subst he'
    have hb := dn325 (G := G) h1 h2 n 0 x (by omega) (by omega)
    have ha : iter (tbody 2 (S325L2 G)) 1 [.flt x, .int 0] = some (0, [.flt x, .int 0, .flt x, .bool false]) := by
      refine iter_end (f := 0) (l := 0) (ds' := [.flt x, .int 0, .flt x, .bool false]) ?_ rfl
      show S325L2 G [.flt x, .int 0] = _
      unfold S325L2
      have c1 := c_ge (one_nge (y := x) (by omega))
      repeat' first
        | with_reducible refine st_ift ?_
        | with_reducible refine st_iff ?_
        | ((with_reducible apply st_some); exact c1)
        | ((with_reducible apply st_callt); assumption; exact rfl; exact rfl; assumption)
        | ((with_reducible apply st_callf); assumption; exact rfl; exact rfl; assumption)
        | ((with_reducible apply st_call); assumption; exact rfl; exact rfl; exact rfl)
        | ((with_reducible apply st_wide); exact rfl; exact rfl)
        | ((with_reducible apply st_skip); exact rfl)
        | ((with_reducible apply st_t); exact rfl; exact rfl)
        | ((with_reducible apply st_f); exact rfl; exact rfl)
        | ((with_reducible apply st_t); exact rfl; assumption)
        | ((with_reducible apply st_f); exact rfl; assumption)
        | ((with_reducible apply st_some); exact rfl)
        | exact rfl
    rw [Nat.zero_add] at hb
    rw [show -((0 : Nat) : Int) = 0 by rfl] at hb
    repeat' first
      | with_reducible refine st_ift ?_
      | with_reducible refine st_iff ?_
      | ((with_reducible apply st_some); exact c1)
      | ((with_reducible apply st_some); exact c2)
      | ((with_reducible apply st_some); exact c3)
      | ((with_reducible apply st_call); exact g333; exact rfl; exact c4; exact rfl)
      | (refine (st_iff ?_ : tif (.bool false) _ _ = _))
      | ((with_reducible apply st_join); exact (iter_fuel ha); exact rfl)
      | ((with_reducible apply st_join); exact (iter_fuel hb); exact rfl)
      | ((with_reducible apply st_join); exact (iter_fuel hser); exact rfl)
      | ((with_reducible apply st_some); exact d1)
      | ((with_reducible apply st_some); exact d2)
      | ((with_reducible apply st_callt); assumption; exact rfl; exact rfl; assumption)
      | ((with_reducible apply st_callf); assumption; exact rfl; exact rfl; assumption)
      | ((with_reducible apply st_call); assumption; exact rfl; exact rfl; exact rfl)
      | ((with_reducible apply st_wide); exact rfl; exact rfl)
      | ((with_reducible apply st_skip); exact rfl)
      | ((with_reducible apply st_t); exact rfl; exact rfl)
      | ((with_reducible apply st_f); exact rfl; exact rfl)
      | ((with_reducible apply st_t); exact rfl; assumption)
      | ((with_reducible apply st_f); exact rfl; assumption)
      | ((with_reducible apply st_some); exact rfl)
      | exact rfl

set_option maxHeartbeats 4000000 in
theorem run333 {G : Told} : ∀ ds rs, F333 ds = some rs → ∃ fuel, run G fuel T333 ds = some (0, rs) := by
  intro ds rs h
  unfold F333 at h
  split at h
  case h_2 => cases h
  rename_i x n
  split at h
  case isFalse => cases h
  rename_i hn
  subst hn
  simp only [Option.some.injEq] at h
  subst h
  refine ⟨0, ?_⟩
  rw [eq333]
  unfold S333
  have j2 : (gev none (.icm .lss) [(.int 1), (.int 0)]).bind (fun x3 => tjoin 1 (tif x3 ((gev none (.fneg .f64) [.flt x]).bind fun x4 => some (0, [x4])) (some (0, [.flt x]))) fun e4 => some (0, [(e4.getD 0 .undef)])) = some (0, [.flt x]) := rfl
  have c1 : gev none (.fcm .gtr .f64) [.flt x, .flt 9218868437227405311] = some (.bool (fgt .f64 x 9218868437227405311)) := rfl
  repeat' first
    | with_reducible refine st_ift ?_
    | with_reducible refine st_iff ?_
    | ((with_reducible apply st_join); exact j2; exact rfl)
    | ((with_reducible apply st_join); exact rfl; exact rfl)
    | ((with_reducible apply st_some); exact c1)
    | ((with_reducible apply st_callt); assumption; exact rfl; exact rfl; assumption)
    | ((with_reducible apply st_callf); assumption; exact rfl; exact rfl; assumption)
    | ((with_reducible apply st_call); assumption; exact rfl; exact rfl; exact rfl)
    | ((with_reducible apply st_wide); exact rfl; exact rfl)
    | ((with_reducible apply st_skip); exact rfl)
    | ((with_reducible apply st_t); exact rfl; exact rfl)
    | ((with_reducible apply st_f); exact rfl; exact rfl)
    | ((with_reducible apply st_t); exact rfl; assumption)
    | ((with_reducible apply st_f); exact rfl; assumption)
    | ((with_reducible apply st_some); exact rfl)
    | exact rfl

theorem wide_feq {x : Nat} (h : x < 2139095040) (h0 : 0 < x) : feq .f32 x 0 = false ∧ flt .f32 x 0 = false ∧ feq .f32 x x = true ∧ finP x = true := by
  have hx : rk .f32 x < inf .f32 := by rw [rk_small (by omega)]; exact h
  have z : rk .f32 0 < inf .f32 := rk0 _
  have s0 : sv .f32 0 = 0 := sv_zero _
  have sx : sv .f32 x = (VS x : Int) := sv_small (by omega)
  have hp : 0 < VS x := V_pos h0
  have ho := over_small h0 h
  refine ⟨?_, ?_, ?_, ?_⟩
  · rw [feq_R hx z, s0, sx, decide_eq_false_iff_not]; omega
  · rw [flt_R hx z, s0, sx, decide_eq_false_iff_not]; omega
  · rw [feq_R hx hx]; simp
  · unfold overP at ho; rw [Bool.and_eq_true] at ho; exact ho.1
theorem zf : feq .f32 0 0 = true ∧ f2f .f64 .f32 18442240474082181120 = some 4286578688 := by decide +kernel
theorem if_ : feq .f32 2139095040 0 = false ∧ flt .f32 2139095040 0 = false ∧ feq .f32 2139095040 2139095040 = true ∧ finP 2139095040 = false ∧ wide 2139095040 = 9218868437227405312 ∧ f2f .f64 .f32 9218868437227405312 = some 2139095040 ∧ wide 0 = 0 := by decide +kernel

set_option maxHeartbeats 4000000 in
theorem run327 {G : Told} (g1 : G 1 = F1) (g326 : G 326 = F326) (g330 : G 330 = F330) : ∀ ds rs, F327 ds = some rs → ∃ fuel, run G fuel T327 ds = some (0, rs) := by
  intro ds rs h
  unfold F327 at h
  split at h
  case h_2 => cases h
  rename_i x
  obtain ⟨y, hy, rfl⟩ := map_some_eq h
  clear h
  refine ⟨0, ?_⟩
  rw [eq327]
  unfold S327
  unfold logO at hy
  split at hy
  · rename_i hx
    subst hx
    simp only [Option.some.injEq] at hy
    subst hy
    have c1 := c_eq zf.1
    have i3 : F330 [.int (-1)] = some [.flt 18442240474082181120] := rfl
    have c2 : gev none (.f2f .f64 .f32) [.flt 18442240474082181120] = some (.flt 4286578688) := by
      show (f2f .f64 .f32 18442240474082181120).map D.flt = _
      rw [zf.2]; rfl
    repeat' first
      | with_reducible refine st_ift ?_
      | with_reducible refine st_iff ?_
      | ((with_reducible apply st_call); exact g330; exact rfl; exact i3; exact rfl)
      | ((with_reducible apply st_some); exact c1)
      | ((with_reducible apply st_some); exact c2)
      | ((with_reducible apply st_callt); assumption; exact rfl; exact rfl; assumption)
      | ((with_reducible apply st_callf); assumption; exact rfl; exact rfl; assumption)
      | ((with_reducible apply st_call); assumption; exact rfl; exact rfl; exact rfl)
      | ((with_reducible apply st_wide); exact rfl; exact rfl)
      | ((with_reducible apply st_skip); exact rfl)
      | ((with_reducible apply st_t); exact rfl; exact rfl)
      | ((with_reducible apply st_f); exact rfl; exact rfl)
      | ((with_reducible apply st_t); exact rfl; assumption)
      | ((with_reducible apply st_f); exact rfl; assumption)
      | ((with_reducible apply st_some); exact rfl)
      | exact rfl
  split at hy
  · rename_i hx
    subst hx
    simp only [Option.some.injEq] at hy
    subst hy
    obtain ⟨f1, f2, f3, f4, _⟩ := if_
    have c1 := c_eq f1
    have c2 := c_lt f2
    have c3 := c_ne' (c := false) f3
    have e1 : F1 [.flt 2139095040] = some [.bool false] := by unfold F1; simp only; rw [f4]
    repeat' first
      | with_reducible refine st_ift ?_
      | with_reducible refine st_iff ?_
      | ((with_reducible apply st_call); exact g1; exact rfl; exact e1; exact rfl)
      | ((with_reducible apply st_some); exact c1)
      | ((with_reducible apply st_some); exact c2)
      | ((with_reducible apply st_some); exact c3)
      | ((with_reducible apply st_callt); assumption; exact rfl; exact rfl; assumption)
      | ((with_reducible apply st_callf); assumption; exact rfl; exact rfl; assumption)
      | ((with_reducible apply st_call); assumption; exact rfl; exact rfl; exact rfl)
      | ((with_reducible apply st_wide); exact rfl; exact rfl)
      | ((with_reducible apply st_skip); exact rfl)
      | ((with_reducible apply st_t); exact rfl; exact rfl)
      | ((with_reducible apply st_f); exact rfl; exact rfl)
      | ((with_reducible apply st_t); exact rfl; assumption)
      | ((with_reducible apply st_f); exact rfl; assumption)
      | ((with_reducible apply st_some); exact rfl)
      | exact rfl
  split at hy
  case isFalse => cases hy
  obtain ⟨f1, f2, f3, f4⟩ := wide_feq (x := x) (by assumption) (by omega)
  have c1 := c_eq f1
  have c2 := c_lt f2
  have c3 := c_ne' (c := false) f3
  have e1 : F1 [.flt x] = some [.bool true] := by unfold F1; simp only; rw [f4]
  have e2 : F326 [.flt (wide x)] = some [.flt (logF (wide x))] := by unfold F326; simp only; rw [if_pos (wide_rng (by omega) (by assumption))]
  have c4 : gev none (.f2f .f64 .f32) [.flt (logF (wide x))] = some (.flt y) := by
    show (f2f .f64 .f32 (logF (wide x))).map D.flt = _
    rw [hy]; rfl
  repeat' first
    | with_reducible refine st_ift ?_
    | with_reducible refine st_iff ?_
    | ((with_reducible apply st_call); exact g1; exact rfl; exact e1; exact rfl)
    | ((with_reducible apply st_call); exact g326; exact rfl; exact e2; exact rfl)
    | ((with_reducible apply st_some); exact c1)
    | ((with_reducible apply st_some); exact c2)
    | ((with_reducible apply st_some); exact c3)
    | ((with_reducible apply st_some); exact c4)
    | ((with_reducible apply st_callt); assumption; exact rfl; exact rfl; assumption)
    | ((with_reducible apply st_callf); assumption; exact rfl; exact rfl; assumption)
    | ((with_reducible apply st_call); assumption; exact rfl; exact rfl; exact rfl)
    | ((with_reducible apply st_wide); exact rfl; exact rfl)
    | ((with_reducible apply st_skip); exact rfl)
    | ((with_reducible apply st_t); exact rfl; exact rfl)
    | ((with_reducible apply st_f); exact rfl; exact rfl)
    | ((with_reducible apply st_t); exact rfl; assumption)
    | ((with_reducible apply st_f); exact rfl; assumption)
    | ((with_reducible apply st_some); exact rfl)
    | exact rfl

set_option maxHeartbeats 4000000 in
theorem run327s {G : Told} (g10 : G 10 = F10) (g325 : G 325 = F325) : ∀ ds rs, F327 ds = some rs → ∃ fuel, run G fuel T327s ds = some (0, rs) := by
  intro ds rs h
  unfold F327 at h
  split at h
  case h_2 => cases h
  rename_i x
  obtain ⟨y, hy, rfl⟩ := map_some_eq h
  clear h
  refine ⟨0, ?_⟩
  rw [eq327s]
  unfold S327s
  unfold logO at hy
  split at hy
  · rename_i hx
    subst hx
    simp only [Option.some.injEq] at hy
    subst hy
    have e2 : F325 [.flt (wide 0)] = some [.flt 18442240474082181120] := by rw [if_.2.2.2.2.2.2]; unfold F325; simp only [if_true]
    have e3 : F10 [.flt 18442240474082181120] = some [.flt 4286578688] := by unfold F10; simp only; rw [zf.2]; rfl
    repeat' first
      | with_reducible refine st_ift ?_
      | with_reducible refine st_iff ?_
      | ((with_reducible apply st_call); exact g325; exact rfl; exact e2; exact rfl)
      | ((with_reducible apply st_call); exact g10; exact rfl; exact e3; exact rfl)
      | ((with_reducible apply st_callt); assumption; exact rfl; exact rfl; assumption)
      | ((with_reducible apply st_callf); assumption; exact rfl; exact rfl; assumption)
      | ((with_reducible apply st_call); assumption; exact rfl; exact rfl; exact rfl)
      | ((with_reducible apply st_wide); exact rfl; exact rfl)
      | ((with_reducible apply st_skip); exact rfl)
      | ((with_reducible apply st_t); exact rfl; exact rfl)
      | ((with_reducible apply st_f); exact rfl; exact rfl)
      | ((with_reducible apply st_t); exact rfl; assumption)
      | ((with_reducible apply st_f); exact rfl; assumption)
      | ((with_reducible apply st_some); exact rfl)
      | exact rfl
  split at hy
  · rename_i hx
    subst hx
    simp only [Option.some.injEq] at hy
    subst hy
    obtain ⟨f1, f2, f3, f4, f5, f6, _⟩ := if_
    have e2 : F325 [.flt (wide 2139095040)] = some [.flt 9218868437227405312] := by rw [f5]; unfold F325; simp only; rw [if_neg (by decide)]; simp only [if_true]
    have e3 : F10 [.flt 9218868437227405312] = some [.flt 2139095040] := by unfold F10; simp only; rw [f6]; rfl
    repeat' first
      | with_reducible refine st_ift ?_
      | with_reducible refine st_iff ?_
      | ((with_reducible apply st_call); exact g325; exact rfl; exact e2; exact rfl)
      | ((with_reducible apply st_call); exact g10; exact rfl; exact e3; exact rfl)
      | ((with_reducible apply st_callt); assumption; exact rfl; exact rfl; assumption)
      | ((with_reducible apply st_callf); assumption; exact rfl; exact rfl; assumption)
      | ((with_reducible apply st_call); assumption; exact rfl; exact rfl; exact rfl)
      | ((with_reducible apply st_wide); exact rfl; exact rfl)
      | ((with_reducible apply st_skip); exact rfl)
      | ((with_reducible apply st_t); exact rfl; exact rfl)
      | ((with_reducible apply st_f); exact rfl; exact rfl)
      | ((with_reducible apply st_t); exact rfl; assumption)
      | ((with_reducible apply st_f); exact rfl; assumption)
      | ((with_reducible apply st_some); exact rfl)
      | exact rfl
  split at hy
  case isFalse => cases hy
  have hr := wide_rng (x := x) (by omega) (by assumption)
  have hr' := hr
  unfold lgR at hr'
  rw [decide_eq_true_eq] at hr'
  have e2 : F325 [.flt (wide x)] = some [.flt (logF (wide x))] := by unfold F325; simp only; rw [if_neg (by omega), if_neg (by omega), if_pos hr]
  have e3 : F10 [.flt (logF (wide x))] = some [.flt y] := by unfold F10; simp only; rw [hy]; rfl
  repeat' first
    | with_reducible refine st_ift ?_
    | with_reducible refine st_iff ?_
    | ((with_reducible apply st_call); exact g325; exact rfl; exact e2; exact rfl)
    | ((with_reducible apply st_call); exact g10; exact rfl; exact e3; exact rfl)
    | ((with_reducible apply st_callt); assumption; exact rfl; exact rfl; assumption)
    | ((with_reducible apply st_callf); assumption; exact rfl; exact rfl; assumption)
    | ((with_reducible apply st_call); assumption; exact rfl; exact rfl; exact rfl)
    | ((with_reducible apply st_wide); exact rfl; exact rfl)
    | ((with_reducible apply st_skip); exact rfl)
    | ((with_reducible apply st_t); exact rfl; exact rfl)
    | ((with_reducible apply st_f); exact rfl; exact rfl)
    | ((with_reducible apply st_t); exact rfl; assumption)
    | ((with_reducible apply st_f); exact rfl; assumption)
    | ((with_reducible apply st_some); exact rfl)
    | exact rfl

set_option maxHeartbeats 4000000 in
theorem run328 {G : Told} (g2 : G 2 = F2) (g312 : G 312 = F312) (g327 : G 327 = F327) : ∀ ds rs, F328 ds = some rs → ∃ fuel, run G fuel T328 ds = some (0, rs) := by
  intro ds rs h
  unfold F328 at h
  split at h
  case h_2 => cases h
  rename_i v
  refine ⟨0, ?_⟩
  rw [eq328]
  unfold S328
  have e2 : F2 [.flt v] = some [.bool (overP v)] := rfl
  cases ho : overP v
  · rw [ho] at e2
    rw [if_neg (by rw [ho]; decide)] at h
    simp only [Option.some.injEq] at h
    subst h
    repeat' first
      | with_reducible refine st_ift ?_
      | with_reducible refine st_iff ?_
      | ((with_reducible apply st_call); exact g2; exact rfl; exact e2; exact rfl)
      | ((with_reducible apply st_callt); assumption; exact rfl; exact rfl; assumption)
      | ((with_reducible apply st_callf); assumption; exact rfl; exact rfl; assumption)
      | ((with_reducible apply st_call); assumption; exact rfl; exact rfl; exact rfl)
      | ((with_reducible apply st_wide); exact rfl; exact rfl)
      | ((with_reducible apply st_skip); exact rfl)
      | ((with_reducible apply st_t); exact rfl; exact rfl)
      | ((with_reducible apply st_f); exact rfl; exact rfl)
      | ((with_reducible apply st_t); exact rfl; assumption)
      | ((with_reducible apply st_f); exact rfl; assumption)
      | ((with_reducible apply st_some); exact rfl)
      | exact rfl
  rw [ho] at e2
  rw [if_pos ho] at h
  obtain ⟨r, hr, rfl⟩ := map_some_eq h
  unfold bubO at hr
  obtain ⟨l, hl, hr⟩ := Option.bind_eq_some_iff.1 hr
  have e3 : F327 [.flt (bubQ v)] = some [.flt l] := by unfold F327; simp only; rw [hl]; rfl
  have e4 := F312_of hr
  have k4 : gev none (.far .mul .f32) [.flt 1082130432, .flt 1078530011] = some (.flt 1095307227) := c_mul kpi
  have c2 : gev none (.far .quo .f32) [.flt (fmul .f32 1077936128 v), .flt 1095307227] = some (.flt (bubQ v)) := rfl
  repeat' first
    | with_reducible refine st_ift ?_
    | with_reducible refine st_iff ?_
    | ((with_reducible apply st_call); exact g2; exact rfl; exact e2; exact rfl)
    | ((with_reducible apply st_call); exact g327; exact rfl; exact e3; exact rfl)
    | ((with_reducible apply st_call); exact g312; exact rfl; exact e4; exact rfl)
    | ((with_reducible apply st_some); exact k4)
    | ((with_reducible apply st_some); exact c2)
    | ((with_reducible apply st_callt); assumption; exact rfl; exact rfl; assumption)
    | ((with_reducible apply st_callf); assumption; exact rfl; exact rfl; assumption)
    | ((with_reducible apply st_call); assumption; exact rfl; exact rfl; exact rfl)
    | ((with_reducible apply st_wide); exact rfl; exact rfl)
    | ((with_reducible apply st_skip); exact rfl)
    | ((with_reducible apply st_t); exact rfl; exact rfl)
    | ((with_reducible apply st_f); exact rfl; exact rfl)
    | ((with_reducible apply st_t); exact rfl; assumption)
    | ((with_reducible apply st_f); exact rfl; assumption)
    | ((with_reducible apply st_some); exact rfl)
    | exact rfl

set_option maxHeartbeats 4000000 in
theorem run328s {G : Told} (g2 : G 2 = F2) (g312 : G 312 = F312) (g327 : G 327 = F327) : ∀ ds rs, F328 ds = some rs → ∃ fuel, run G fuel T328s ds = some (0, rs) := by
  intro ds rs h
  unfold F328 at h
  split at h
  case h_2 => cases h
  rename_i v
  refine ⟨0, ?_⟩
  rw [eq328s]
  unfold S328s
  have e2 : F2 [.flt v] = some [.bool (overP v)] := rfl
  cases ho : overP v
  · rw [ho] at e2
    rw [if_neg (by rw [ho]; decide)] at h
    simp only [Option.some.injEq] at h
    subst h
    repeat' first
      | with_reducible refine st_ift ?_
      | with_reducible refine st_iff ?_
      | ((with_reducible apply st_call); exact g2; exact rfl; exact e2; exact rfl)
      | ((with_reducible apply st_callt); assumption; exact rfl; exact rfl; assumption)
      | ((with_reducible apply st_callf); assumption; exact rfl; exact rfl; assumption)
      | ((with_reducible apply st_call); assumption; exact rfl; exact rfl; exact rfl)
      | ((with_reducible apply st_wide); exact rfl; exact rfl)
      | ((with_reducible apply st_skip); exact rfl)
      | ((with_reducible apply st_t); exact rfl; exact rfl)
      | ((with_reducible apply st_f); exact rfl; exact rfl)
      | ((with_reducible apply st_t); exact rfl; assumption)
      | ((with_reducible apply st_f); exact rfl; assumption)
      | ((with_reducible apply st_some); exact rfl)
      | exact rfl
  rw [ho] at e2
  rw [if_pos ho] at h
  obtain ⟨r, hr, rfl⟩ := map_some_eq h
  unfold bubO at hr
  obtain ⟨l, hl, hr⟩ := Option.bind_eq_some_iff.1 hr
  have e3 : F327 [.flt (bubQ v)] = some [.flt l] := by unfold F327; simp only; rw [hl]; rfl
  have e4 := F312_of hr
  have k4 : gev none (.far .mul .f32) [.flt 1082130432, .flt 1078530011] = some (.flt 1095307227) := c_mul kpi
  have c2 : gev none (.far .quo .f32) [.flt (fmul .f32 1077936128 v), .flt 1095307227] = some (.flt (bubQ v)) := rfl
  repeat' first
    | with_reducible refine st_ift ?_
    | with_reducible refine st_iff ?_
    | ((with_reducible apply st_call); exact g2; exact rfl; exact e2; exact rfl)
    | ((with_reducible apply st_call); exact g327; exact rfl; exact e3; exact rfl)
    | ((with_reducible apply st_call); exact g312; exact rfl; exact e4; exact rfl)
    | ((with_reducible apply st_some); exact k4)
    | ((with_reducible apply st_some); exact c2)
    | ((with_reducible apply st_callt); assumption; exact rfl; exact rfl; assumption)
    | ((with_reducible apply st_callf); assumption; exact rfl; exact rfl; assumption)
    | ((with_reducible apply st_call); assumption; exact rfl; exact rfl; exact rfl)
    | ((with_reducible apply st_wide); exact rfl; exact rfl)
    | ((with_reducible apply st_skip); exact rfl)
    | ((with_reducible apply st_t); exact rfl; exact rfl)
    | ((with_reducible apply st_f); exact rfl; exact rfl)
    | ((with_reducible apply st_t); exact rfl; assumption)
    | ((with_reducible apply st_f); exact rfl; assumption)
    | ((with_reducible apply st_some); exact rfl)
    | exact rfl

set_option maxHeartbeats 4000000 in
theorem run329 {G : Told} (g4 : G 4 = F4) (g328 : G 328 = F328) : ∀ ds rs, F329 ds = some rs → ∃ fuel, run G fuel T329 ds = some (0, rs) := by
  intro ds rs h
  unfold F329 at h
  split at h
  case h_2 => cases h
  rename_i r
  simp only [Option.some.injEq] at h
  subst h
  refine ⟨0, ?_⟩
  rw [eq329]
  unfold S329
  obtain ⟨x, y, hxy⟩ := F328_some r
  have h4 : F4 [.flt (wide x), .flt (wide x)] = some [.bool true] := by simp [F4, sameP_self]
  have hn : gev (some (.bool false, false)) .bne [.bool y, .bool y] = some (.bool false) := by simp [gev, gok, Prim.ev]
  repeat' first
    | with_reducible refine st_ift ?_
    | with_reducible refine st_iff ?_
    | ((with_reducible apply st_call); exact g328; exact rfl; exact hxy; exact rfl)
    | ((with_reducible apply st_call); exact g4; exact rfl; exact h4; exact rfl)
    | ((with_reducible apply st_some); exact hn)
    | ((with_reducible apply st_callt); assumption; exact rfl; exact rfl; assumption)
    | ((with_reducible apply st_callf); assumption; exact rfl; exact rfl; assumption)
    | ((with_reducible apply st_call); assumption; exact rfl; exact rfl; exact rfl)
    | ((with_reducible apply st_wide); exact rfl; exact rfl)
    | ((with_reducible apply st_skip); exact rfl)
    | ((with_reducible apply st_t); exact rfl; exact rfl)
    | ((with_reducible apply st_f); exact rfl; exact rfl)
    | ((with_reducible apply st_t); exact rfl; assumption)
    | ((with_reducible apply st_f); exact rfl; assumption)
    | ((with_reducible apply st_some); exact rfl)
    | exact rfl

end Vs
