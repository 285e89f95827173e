/-
  NeckOf and IsHolding: what the functions compute, and the laws.
-/
import Derived.Test.YthgocnlbnghbbaaMf5
import Derived.Test.YthgocnlbnghbbaaD
import Derived.Test.YthgocnlbnghbbaaK3
namespace Vs
open Go

theorem wide_nan {x : Nat} (h : isnan .f64 (wide x) = true) : wide x = fnan .f64 := by
  have hx := f2f_wide x
  have key : ∀ y, isnan .f64 (canon .f64 y) = true → canon .f64 y = fnan .f64 := by
    intro y hy
    unfold canon at hy ⊢
    split
    · rfl
    · rename_i hn
      rw [if_neg hn] at hy
      exact absurd hy hn
  unfold f2f at hx
  rw [if_neg (by decide)] at hx
  split at hx
  · simp only [Option.some.injEq] at hx
    exact hx.symm
  · simp only [Option.some.injEq] at hx
    rw [← hx] at h ⊢
    exact key _ h
  · split at hx
    · cases hx
    · simp only [Option.some.injEq] at hx
      rw [← hx] at h ⊢
      exact key _ h
theorem exp_nan : expW (fnan .f64) = fnan .f64 := by decide +kernel

def F330 : List D → Option (List D) | [.int n] => some [.flt (if 0 ≤ n then 9218868437227405312 else 18442240474082181120)] | _ => none
def F310 : List D → Option (List D) | [.flt x] => if isnan .f64 x = true ∧ x ≠ fnan .f64 then none else some [.flt (expW x)] | _ => none
def F311 : List D → Option (List D) | [.flt x] => some [.flt (expW (wide x))] | _ => none
def F312 : List D → Option (List D) | [.flt x] => (expO x).map fun z => [.flt z] | _ => none
theorem F310_wide (x : Nat) : F310 [.flt (wide x)] = some [.flt (expW (wide x))] := by
  unfold F310
  simp only
  rw [if_neg]
  intro h
  exact h.2 (wide_nan h.1)
def T330 : T :=
(.op none (.icm .geq) [(.v 0), (.c (.int 0))] <|
(.join 1
  (.ite (.v 1)
    (.out 0 [(.c (.int 9218868437227405312))])
    (.out 0 [(.c (.int 18442240474082181120))]))
(.op none (.b2f .f64) [(.v 2)] <|
(.out 0 [(.v 3)]))))
def S330 (_G : Told) (_fuel : Nat) (x0 : D) : Option (Nat × List D) :=
  (gev none (.icm .geq) [x0, (.int 0)]).bind fun x1 =>
  tjoin 1 (
    tif x1 (
      some (0, [(.int 9218868437227405312)])) (
      some (0, [(.int 18442240474082181120)]))) fun e2 =>
  (gev none (.b2f .f64) [(e2.getD 0 .undef)]).bind fun x3 =>
  some (0, [x3])
theorem eq330 {G : Told} {fuel : Nat} (x0 : D) : run G fuel T330 [x0] = S330 G fuel x0 := by
  rw [run_eq]; kernel_rfl

def T310s : T :=
(.op none (.fcm .neq .f64) [(.v 0), (.v 0)] <|
(.ite (.v 1)
  (.out 0 [(.v 0)])
  (.op none (.fcm .gtr .f64) [(.v 0), (.c (.flt 4641240890982006784))] <|
  (.ite (.v 2)
    (.call none 330 [(.c (.int 1))] 1 <|
    (.out 0 [(.v 3)]))
    (.op none (.fcm .lss .f64) [(.v 0), (.c (.flt 13864612927836782592))] <|
    (.ite (.v 3)
      (.out 0 [(.c (.flt 0))])
      (.op none (.far .quo .f64) [(.v 0), (.c (.flt 4643211215818981376))] <|
      (.join 4
        (.loop [(.c (.flt 4607182418800017408)), (.c (.int 12))]
          (.op none (.icm .geq) [(.v 6), (.c (.int 1))] <|
          (.ite (.v 7)
            (.op none (.far .mul .f64) [(.v 4), (.v 5)] <|
            (.op none (.i2f .f64) [(.v 6)] <|
            (.op none (.far .quo .f64) [(.v 8), (.v 9)] <|
            (.op none (.far .add .f64) [(.c (.flt 4607182418800017408)), (.v 10)] <|
            (.op none (.iar .sub .i64) [(.v 6), (.c (.int 1))] <|
            (.out 0 [(.v 11), (.v 12)]))))))
            (.out 1 [(.v 5), (.v 6), (.v 6), (.v 7)]))))
      (.join 4
        (.loop [(.v 5), (.c (.int 0))]
          (.op none (.icm .lss) [(.v 10), (.c (.int 8))] <|
          (.ite (.v 11)
            (.op none (.far .mul .f64) [(.v 9), (.v 9)] <|
            (.op none (.iar .add .i64) [(.v 10), (.c (.int 1))] <|
            (.out 0 [(.v 12), (.v 13)])))
            (.out 1 [(.v 9), (.v 10), (.v 10), (.v 11)]))))
      (.out 0 [(.v 9)]))))))))))
def S310sL0 (_G : Told) : List D → Option (Nat × List D) := fun e9 =>
            (gev none (.icm .lss) [(e9.getD 1 .undef), (.int 8)]).bind fun x11 =>
            tif x11 (
              (gev none (.far .mul .f64) [(e9.getD 0 .undef), (e9.getD 0 .undef)]).bind fun x12 =>
              (gev none (.iar .add .i64) [(e9.getD 1 .undef), (.int 1)]).bind fun x13 =>
              some (0, [x12, x13])) (
              some (1, [(e9.getD 0 .undef), (e9.getD 1 .undef), (e9.getD 1 .undef), x11]))
def S310sL1 (_G : Told) (x4 : D) : List D → Option (Nat × List D) := fun e5 =>
            (gev none (.icm .geq) [(e5.getD 1 .undef), (.int 1)]).bind fun x7 =>
            tif x7 (
              (gev none (.far .mul .f64) [x4, (e5.getD 0 .undef)]).bind fun x8 =>
              (gev none (.i2f .f64) [(e5.getD 1 .undef)]).bind fun x9 =>
              (gev none (.far .quo .f64) [x8, x9]).bind fun x10 =>
              (gev none (.far .add .f64) [(.flt 4607182418800017408), x10]).bind fun x11 =>
              (gev none (.iar .sub .i64) [(e5.getD 1 .undef), (.int 1)]).bind fun x12 =>
              some (0, [x11, x12])) (
              some (1, [(e5.getD 0 .undef), (e5.getD 1 .undef), (e5.getD 1 .undef), x7]))
def S310s (G : Told) (fuel : Nat) (x0 : D) : Option (Nat × List D) :=
  (gev none (.fcm .neq .f64) [x0, x0]).bind fun x1 =>
  tif x1 (
    some (0, [x0])) (
    (gev none (.fcm .gtr .f64) [x0, (.flt 4641240890982006784)]).bind fun x2 =>
    tif x2 (
      (gcall G none 330 [(.int 1)] 1).bind fun e3 =>
      some (0, [(e3.getD 0 .undef)])) (
      (gev none (.fcm .lss .f64) [x0, (.flt 13864612927836782592)]).bind fun x3 =>
      tif x3 (
        some (0, [(.flt 0)])) (
        (gev none (.far .quo .f64) [x0, (.flt 4643211215818981376)]).bind fun x4 =>
        tjoin 4 (
          iter (tbody 2 (S310sL1 G x4)) fuel [(.flt 4607182418800017408), (.int 12)]) fun e5 =>
        tjoin 4 (
          iter (tbody 2 (S310sL0 G )) fuel [(e5.getD 0 .undef), (.int 0)]) fun e9 =>
        some (0, [(e9.getD 0 .undef)]))))
theorem eq310s {G : Told} {fuel : Nat} (x0 : D) : run G fuel T310s [x0] = S310s G fuel x0 := by
  rw [run_eq]; kernel_rfl

def T310 : T :=
(.op none (.fcm .gtr .f64) [(.v 0), (.c (.flt 4641240890982006784))] <|
(.ite (.v 1)
  (.call none 330 [(.c (.int 1))] 1 <|
  (.out 0 [(.v 2)]))
  (.op none (.fcm .lss .f64) [(.v 0), (.c (.flt 13864612927836782592))] <|
  (.ite (.v 2)
    (.out 0 [(.c (.flt 0))])
    (.op none (.far .quo .f64) [(.v 0), (.c (.flt 4643211215818981376))] <|
    (.join 4
      (.loop [(.c (.flt 4607182418800017408)), (.c (.flt 4622945017495814144))]
        (.op none (.fcm .geq .f64) [(.v 5), (.c (.flt 4607182418800017408))] <|
        (.ite (.v 6)
          (.op none (.far .mul .f64) [(.v 3), (.v 4)] <|
          (.op none (.far .quo .f64) [(.v 7), (.v 5)] <|
          (.op none (.far .add .f64) [(.c (.flt 4607182418800017408)), (.v 8)] <|
          (.op none (.far .sub .f64) [(.v 5), (.c (.flt 4607182418800017408))] <|
          (.out 0 [(.v 9), (.v 10)])))))
          (.out 1 [(.v 4), (.v 5), (.v 5), (.v 6)]))))
    (.join 3
      (.loop [(.v 4), (.c (.int 0))]
        (.op none (.icm .lss) [(.v 9), (.c (.int 8))] <|
        (.ite (.v 10)
          (.op none (.far .mul .f64) [(.v 8), (.v 8)] <|
          (.op none (.iar .add .i64) [(.v 9), (.c (.int 1))] <|
          (.out 0 [(.v 11), (.v 12)])))
          (.out 1 [(.v 8), (.v 9), (.v 10)]))))
    (.out 0 [(.v 8)]))))))))
def S310L0 (_G : Told) : List D → Option (Nat × List D) := fun e8 =>
          (gev none (.icm .lss) [(e8.getD 1 .undef), (.int 8)]).bind fun x10 =>
          tif x10 (
            (gev none (.far .mul .f64) [(e8.getD 0 .undef), (e8.getD 0 .undef)]).bind fun x11 =>
            (gev none (.iar .add .i64) [(e8.getD 1 .undef), (.int 1)]).bind fun x12 =>
            some (0, [x11, x12])) (
            some (1, [(e8.getD 0 .undef), (e8.getD 1 .undef), x10]))
def S310L1 (_G : Told) (x3 : D) : List D → Option (Nat × List D) := fun e4 =>
          (gev none (.fcm .geq .f64) [(e4.getD 1 .undef), (.flt 4607182418800017408)]).bind fun x6 =>
          tif x6 (
            (gev none (.far .mul .f64) [x3, (e4.getD 0 .undef)]).bind fun x7 =>
            (gev none (.far .quo .f64) [x7, (e4.getD 1 .undef)]).bind fun x8 =>
            (gev none (.far .add .f64) [(.flt 4607182418800017408), x8]).bind fun x9 =>
            (gev none (.far .sub .f64) [(e4.getD 1 .undef), (.flt 4607182418800017408)]).bind fun x10 =>
            some (0, [x9, x10])) (
            some (1, [(e4.getD 0 .undef), (e4.getD 1 .undef), (e4.getD 1 .undef), x6]))
def S310 (G : Told) (fuel : Nat) (x0 : D) : Option (Nat × List D) :=
  (gev none (.fcm .gtr .f64) [x0, (.flt 4641240890982006784)]).bind fun x1 =>
  tif x1 (
    (gcall G none 330 [(.int 1)] 1).bind fun e2 =>
    some (0, [(e2.getD 0 .undef)])) (
    (gev none (.fcm .lss .f64) [x0, (.flt 13864612927836782592)]).bind fun x2 =>
    tif x2 (
      some (0, [(.flt 0)])) (
      (gev none (.far .quo .f64) [x0, (.flt 4643211215818981376)]).bind fun x3 =>
      tjoin 4 (
        iter (tbody 2 (S310L1 G x3)) fuel [(.flt 4607182418800017408), (.flt 4622945017495814144)]) fun e4 =>
      tjoin 3 (
        iter (tbody 2 (S310L0 G )) fuel [(e4.getD 0 .undef), (.int 0)]) fun e8 =>
      some (0, [(e8.getD 0 .undef)])))
theorem eq310 {G : Told} {fuel : Nat} (x0 : D) : run G fuel T310 [x0] = S310 G fuel x0 := by
  rw [run_eq]; kernel_rfl

def T311 : T :=
(.op none (.f2f .f32 .f64) [(.v 0)] <|
(.call none 310 [(.v 1)] 1 <|
(.out 0 [(.v 2)])))
def S311 (G : Told) (_fuel : Nat) (x0 : D) : Option (Nat × List D) :=
  (gev none (.f2f .f32 .f64) [x0]).bind fun x1 =>
  (gcall G none 310 [x1] 1).bind fun e2 =>
  some (0, [(e2.getD 0 .undef)])
theorem eq311 {G : Told} {fuel : Nat} (x0 : D) : run G fuel T311 [x0] = S311 G fuel x0 := by
  rw [run_eq]; kernel_rfl

def T312 : T :=
(.call none 311 [(.v 0)] 1 <|
(.op none (.f2f .f64 .f32) [(.v 1)] <|
(.out 0 [(.v 2)])))
def S312 (G : Told) (_fuel : Nat) (x0 : D) : Option (Nat × List D) :=
  (gcall G none 311 [x0] 1).bind fun e1 =>
  (gev none (.f2f .f64 .f32) [(e1.getD 0 .undef)]).bind fun x2 =>
  some (0, [x2])
theorem eq312 {G : Told} {fuel : Nat} (x0 : D) : run G fuel T312 [x0] = S312 G fuel x0 := by
  rw [run_eq]; kernel_rfl

def T312s : T :=
(.op none (.f2f .f32 .f64) [(.v 0)] <|
(.call none 310 [(.v 1)] 1 <|
(.call none 10 [(.v 2)] 1 <|
(.out 0 [(.v 3)]))))
def S312s (G : Told) (_fuel : Nat) (x0 : D) : Option (Nat × List D) :=
  (gev none (.f2f .f32 .f64) [x0]).bind fun x1 =>
  (gcall G none 310 [x1] 1).bind fun e2 =>
  (gcall G none 10 [(e2.getD 0 .undef)] 1).bind fun e3 =>
  some (0, [(e3.getD 0 .undef)])
theorem eq312s {G : Told} {fuel : Nat} (x0 : D) : run G fuel T312s [x0] = S312s G fuel x0 := by
  rw [run_eq]; kernel_rfl

theorem kfs : ∀ n, n < 12 → fge .f64 (i2f .f64 ((n + 1 : Nat) : Int)) 4607182418800017408 = true ∧ fsub .f64 (i2f .f64 ((n + 1 : Nat) : Int)) 4607182418800017408 = i2f .f64 (n : Int) := by decide +kernel
theorem kf0 : fge .f64 (i2f .f64 0) 4607182418800017408 = false := by decide +kernel
theorem kf12 : i2f .f64 12 = 4622945017495814144 := by decide +kernel

attribute [local irreducible] fadd fsub fmul fdiv fneg finP overP feq flt fle fgt fge i2f f2f wide expW

theorem run330 {G : Told} : ∀ ds rs, F330 ds = some rs → ∃ fuel, run G fuel T330 ds = some (0, rs) := by
  intro ds rs h
  unfold F330 at h
  split at h
  case h_2 => cases h
  rename_i n
  simp only [Option.some.injEq] at h
  subst h
  refine ⟨0, ?_⟩
  rw [eq330]
  unfold S330
  have c1 : canon .f64 9218868437227405312 = 9218868437227405312 := by decide
  have c2 : canon .f64 18442240474082181120 = 18442240474082181120 := by decide
  by_cases hn : 0 ≤ n
  · have e1 : gev none (.icm .geq) [.int n, .int 0] = some (.bool true) := by simp [gev, gok, Prim.ev, icmp, hn]
    have e2 : gev none (.b2f .f64) [.int 9218868437227405312] = some (.flt 9218868437227405312) := by
      show some (D.flt (canon .f64 9218868437227405312)) = _
      rw [c1]
    rw [if_pos hn]
    repeat' first
      | with_reducible refine st_ift ?_
      | with_reducible refine st_iff ?_
      | ((with_reducible apply st_some); exact e1)
      | ((with_reducible apply st_some); exact e2)
      | ((with_reducible apply st_join); exact rfl; exact rfl)
      | ((with_reducible apply st_callt); assumption; exact rfl; exact rfl; assumption)
      | ((with_reducible apply st_callf); assumption; exact rfl; exact rfl; assumption)
      | ((with_reducible apply st_call); assumption; exact rfl; exact rfl; exact rfl)
      | ((with_reducible apply st_wide); exact rfl; exact rfl)
      | ((with_reducible apply st_skip); exact rfl)
      | ((with_reducible apply st_t); exact rfl; exact rfl)
      | ((with_reducible apply st_f); exact rfl; exact rfl)
      | ((with_reducible apply st_t); exact rfl; assumption)
      | ((with_reducible apply st_f); exact rfl; assumption)
      | ((with_reducible apply st_some); exact rfl)
      | exact rfl
  · have e1 : gev none (.icm .geq) [.int n, .int 0] = some (.bool false) := by simp [gev, gok, Prim.ev, icmp, hn]
    have e2 : gev none (.b2f .f64) [.int 18442240474082181120] = some (.flt 18442240474082181120) := by
      show some (D.flt (canon .f64 18442240474082181120)) = _
      rw [c2]
    rw [if_neg hn]
    repeat' first
      | with_reducible refine st_ift ?_
      | with_reducible refine st_iff ?_
      | ((with_reducible apply st_some); exact e1)
      | ((with_reducible apply st_some); exact e2)
      | ((with_reducible apply st_join); exact rfl; exact rfl)
      | ((with_reducible apply st_callt); assumption; exact rfl; exact rfl; assumption)
      | ((with_reducible apply st_callf); assumption; exact rfl; exact rfl; assumption)
      | ((with_reducible apply st_call); assumption; exact rfl; exact rfl; exact rfl)
      | ((with_reducible apply st_wide); exact rfl; exact rfl)
      | ((with_reducible apply st_skip); exact rfl)
      | ((with_reducible apply st_t); exact rfl; exact rfl)
      | ((with_reducible apply st_f); exact rfl; exact rfl)
      | ((with_reducible apply st_t); exact rfl; assumption)
      | ((with_reducible apply st_f); exact rfl; assumption)
      | ((with_reducible apply st_some); exact rfl)
      | exact rfl

set_option maxHeartbeats 4000000 in
theorem horn310s {G : Told} (t : Nat) : ∀ n p, n ≤ 12 → iter (tbody 2 (S310sL1 G (.flt t))) (n + 1) [.flt p, .int n] = some (0, [.flt (hornE t n p), .int 0, .int 0, .bool false])
  | 0, p, _ => by
    exact iter_end (f := 0) (l := 0) rfl rfl
  | n + 1, p, hn => by
    have c1 : gev none (.icm .geq) [.int ((n + 1 : Nat) : Int), .int 1] = some (.bool true) := by simp [gev, gok, Prim.ev, icmp]; omega
    have c2 : gev none (.i2f .f64) [.int ((n + 1 : Nat) : Int)] = some (.flt (i2f .f64 ((n + 1 : Nat) : Int))) := rfl
    have c3 : gev none (.iar .sub .i64) [.int ((n + 1 : Nat) : Int), .int 1] = some (.int n) := by
      have e : gev none (.iar .sub .i64) [.int ((n + 1 : Nat) : Int), .int 1] = some (.int (IntKind.wrap .i64 (((n + 1 : Nat) : Int) - 1))) := rfl
      rw [e, wrap_small (by omega) (by omega)]
      congr 2
      omega
    refine iter_go (ds' := [.flt (fadd .f64 4607182418800017408 (fdiv .f64 (fmul .f64 t p) (i2f .f64 ((n + 1 : Nat) : Int)))), .int n]) ?_ (horn310s t n _ (by omega))
    show S310sL1 G (.flt t) [.flt p, .int ((n + 1 : Nat) : Int)] = _
    unfold S310sL1
    repeat' first
      | with_reducible refine st_ift ?_
      | with_reducible refine st_iff ?_
      | ((with_reducible apply st_some); exact c1)
      | ((with_reducible apply st_some); exact c2)
      | ((with_reducible apply st_some); exact c3)
      | ((with_reducible apply st_callt); assumption; exact rfl; exact rfl; assumption)
      | ((with_reducible apply st_callf); assumption; exact rfl; exact rfl; assumption)
      | ((with_reducible apply st_call); assumption; exact rfl; exact rfl; exact rfl)
      | ((with_reducible apply st_wide); exact rfl; exact rfl)
      | ((with_reducible apply st_skip); exact rfl)
      | ((with_reducible apply st_t); exact rfl; exact rfl)
      | ((with_reducible apply st_f); exact rfl; exact rfl)
      | ((with_reducible apply st_t); exact rfl; assumption)
      | ((with_reducible apply st_f); exact rfl; assumption)
      | ((with_reducible apply st_some); exact rfl)
      | exact rfl

set_option maxHeartbeats 4000000 in
theorem sq310s {G : Told} : ∀ n p, n ≤ 8 → iter (tbody 2 (S310sL0 G)) (n + 1) [.flt p, .int ((8 - n : Nat) : Int)] = some (0, [.flt (sqE n p), .int 8, .int 8, .bool false])
  | 0, p, _ => by
    exact iter_end (f := 0) (l := 0) rfl rfl
  | n + 1, p, hn => by
    have e : (8 - n : Nat) = (8 - (n + 1)) + 1 := by omega
    have c1 : gev none (.icm .lss) [.int ((8 - (n + 1) : Nat) : Int), .int 8] = some (.bool true) := by simp [gev, gok, Prim.ev, icmp]; omega
    have c3 : gev none (.iar .add .i64) [.int ((8 - (n + 1) : Nat) : Int), .int 1] = some (.int ((8 - n : Nat) : Int)) := by rw [e]; exact add1n (by omega)
    refine iter_go (ds' := [.flt (fmul .f64 p p), .int ((8 - n : Nat) : Int)]) ?_ (sq310s n _ (by omega))
    show S310sL0 G [.flt p, .int ((8 - (n + 1) : Nat) : Int)] = _
    unfold S310sL0
    repeat' first
      | with_reducible refine st_ift ?_
      | with_reducible refine st_iff ?_
      | ((with_reducible apply st_some); exact c1)
      | ((with_reducible apply st_some); exact c3)
      | ((with_reducible apply st_callt); assumption; exact rfl; exact rfl; assumption)
      | ((with_reducible apply st_callf); assumption; exact rfl; exact rfl; assumption)
      | ((with_reducible apply st_call); assumption; exact rfl; exact rfl; exact rfl)
      | ((with_reducible apply st_wide); exact rfl; exact rfl)
      | ((with_reducible apply st_skip); exact rfl)
      | ((with_reducible apply st_t); exact rfl; exact rfl)
      | ((with_reducible apply st_f); exact rfl; exact rfl)
      | ((with_reducible apply st_t); exact rfl; assumption)
      | ((with_reducible apply st_f); exact rfl; assumption)
      | ((with_reducible apply st_some); exact rfl)
      | exact rfl

set_option maxHeartbeats 4000000 in
theorem horn310 {G : Told} (t : Nat) : ∀ n p, n ≤ 12 → iter (tbody 2 (S310L1 G (.flt t))) (n + 1) [.flt p, .flt (i2f .f64 n)] = some (0, [.flt (hornE t n p), .flt (i2f .f64 0), .flt (i2f .f64 0), .bool false])
  | 0, p, _ => by
    have c1 : gev none (.fcm .geq .f64) [.flt (i2f .f64 0), .flt 4607182418800017408] = some (.bool false) := by
      show some (D.bool (fge .f64 (i2f .f64 0) 4607182418800017408)) = _
      rw [kf0]
    refine iter_end (f := 0) (l := 0) (ds' := [.flt p, .flt (i2f .f64 0), .flt (i2f .f64 0), .bool false]) ?_ rfl
    show S310L1 G (.flt t) [.flt p, .flt (i2f .f64 0)] = _
    unfold S310L1
    repeat' first
      | with_reducible refine st_ift ?_
      | with_reducible refine st_iff ?_
      | ((with_reducible apply st_some); exact c1)
      | ((with_reducible apply st_callt); assumption; exact rfl; exact rfl; assumption)
      | ((with_reducible apply st_callf); assumption; exact rfl; exact rfl; assumption)
      | ((with_reducible apply st_call); assumption; exact rfl; exact rfl; exact rfl)
      | ((with_reducible apply st_wide); exact rfl; exact rfl)
      | ((with_reducible apply st_skip); exact rfl)
      | ((with_reducible apply st_t); exact rfl; exact rfl)
      | ((with_reducible apply st_f); exact rfl; exact rfl)
      | ((with_reducible apply st_t); exact rfl; assumption)
      | ((with_reducible apply st_f); exact rfl; assumption)
      | ((with_reducible apply st_some); exact rfl)
      | exact rfl
  | n + 1, p, hn => by
    obtain ⟨k1, k2⟩ := kfs n (by omega)
    have c1 : gev none (.fcm .geq .f64) [.flt (i2f .f64 ((n + 1 : Nat) : Int)), .flt 4607182418800017408] = some (.bool true) := by
      show some (D.bool (fge .f64 (i2f .f64 ((n + 1 : Nat) : Int)) 4607182418800017408)) = _
      rw [k1]
    have c3 : gev none (.far .sub .f64) [.flt (i2f .f64 ((n + 1 : Nat) : Int)), .flt 4607182418800017408] = some (.flt (i2f .f64 n)) := by
      show some (D.flt (fsub .f64 (i2f .f64 ((n + 1 : Nat) : Int)) 4607182418800017408)) = _
      rw [k2]
    refine iter_go (ds' := [.flt (fadd .f64 4607182418800017408 (fdiv .f64 (fmul .f64 t p) (i2f .f64 ((n + 1 : Nat) : Int)))), .flt (i2f .f64 n)]) ?_ (horn310 t n _ (by omega))
    show S310L1 G (.flt t) [.flt p, .flt (i2f .f64 ((n + 1 : Nat) : Int))] = _
    unfold S310L1
    repeat' first
      | with_reducible refine st_ift ?_
      | with_reducible refine st_iff ?_
      | ((with_reducible apply st_some); exact c1)
      | ((with_reducible apply st_some); exact c3)
      | ((with_reducible apply st_callt); assumption; exact rfl; exact rfl; assumption)
      | ((with_reducible apply st_callf); assumption; exact rfl; exact rfl; assumption)
      | ((with_reducible apply st_call); assumption; exact rfl; exact rfl; exact rfl)
      | ((with_reducible apply st_wide); exact rfl; exact rfl)
      | ((with_reducible apply st_skip); exact rfl)
      | ((with_reducible apply st_t); exact rfl; exact rfl)
      | ((with_reducible apply st_f); exact rfl; exact rfl)
      | ((with_reducible apply st_t); exact rfl; assumption)
      | ((with_reducible apply st_f); exact rfl; assumption)
      | ((with_reducible apply st_some); exact rfl)
      | exact rfl

set_option maxHeartbeats 4000000 in
theorem sq310 {G : Told} : ∀ n p, n ≤ 8 → iter (tbody 2 (S310L0 G)) (n + 1) [.flt p, .int ((8 - n : Nat) : Int)] = some (0, [.flt (sqE n p), .int 8, .bool false])
  | 0, p, _ => by
    exact iter_end (f := 0) (l := 0) rfl rfl
  | n + 1, p, hn => by
    have e : (8 - n : Nat) = (8 - (n + 1)) + 1 := by omega
    have c1 : gev none (.icm .lss) [.int ((8 - (n + 1) : Nat) : Int), .int 8] = some (.bool true) := by simp [gev, gok, Prim.ev, icmp]; omega
    have c3 : gev none (.iar .add .i64) [.int ((8 - (n + 1) : Nat) : Int), .int 1] = some (.int ((8 - n : Nat) : Int)) := by rw [e]; exact add1n (by omega)
    refine iter_go (ds' := [.flt (fmul .f64 p p), .int ((8 - n : Nat) : Int)]) ?_ (sq310 n _ (by omega))
    show S310L0 G [.flt p, .int ((8 - (n + 1) : Nat) : Int)] = _
    unfold S310L0
    repeat' first
      | with_reducible refine st_ift ?_
      | with_reducible refine st_iff ?_
      | ((with_reducible apply st_some); exact c1)
      | ((with_reducible apply st_some); exact c3)
      | ((with_reducible apply st_callt); assumption; exact rfl; exact rfl; assumption)
      | ((with_reducible apply st_callf); assumption; exact rfl; exact rfl; assumption)
      | ((with_reducible apply st_call); assumption; exact rfl; exact rfl; exact rfl)
      | ((with_reducible apply st_wide); exact rfl; exact rfl)
      | ((with_reducible apply st_skip); exact rfl)
      | ((with_reducible apply st_t); exact rfl; exact rfl)
      | ((with_reducible apply st_f); exact rfl; exact rfl)
      | ((with_reducible apply st_t); exact rfl; assumption)
      | ((with_reducible apply st_f); exact rfl; assumption)
      | ((with_reducible apply st_some); exact rfl)
      | exact rfl

theorem iter_more {body : List D → Option (Nat × List D)} : ∀ {f : Nat} {ds : List D} {r}, iter body f ds = some r → ∀ k, iter body (f + k) ds = some r
  | 0, ds, r, h, k => by cases h
  | f + 1, ds, r, h, k => by
    rw [show f + 1 + k = (f + k) + 1 by omega]
    simp only [iter] at h ⊢
    split at h
    · rename_i ds' hb
      exact iter_more h k
    · exact h
    · cases h
theorem iter_fuel {body : List D → Option (Nat × List D)} {f g : Nat} {ds : List D} {r} (h : iter body f ds = some r) (hg : f ≤ g := by omega) : iter body g ds = some r := by
  have := iter_more h (g - f)
  rwa [show f + (g - f) = g by omega] at this

set_option maxHeartbeats 4000000 in
theorem run310s {G : Told} (g330 : G 330 = F330) : ∀ ds rs, F310 ds = some rs → ∃ fuel, run G fuel T310s ds = some (0, rs) := by
  intro ds rs h
  unfold F310 at h
  split at h
  case h_2 => cases h
  rename_i x
  split at h
  · cases h
  rename_i hnan
  simp only [Option.some.injEq] at h
  subst h
  refine ⟨13, ?_⟩
  rw [eq310s]
  unfold S310s
  cases hq : feq .f64 x x
  · -- no number
    have hn : isnan .f64 x = true := by
      cases hi : isnan .f64 x with
      | true => rfl
      | false => rw [feq_self hi] at hq; cases hq
    have hx : x = fnan .f64 := Classical.byContradiction fun hne => hnan ⟨hn, hne⟩
    subst hx
    rw [exp_nan]
    have c0 : gev none (.fcm .neq .f64) [.flt (fnan .f64), .flt (fnan .f64)] = some (.bool true) := by
      show some (D.bool (!feq .f64 (fnan .f64) (fnan .f64))) = _
      rw [hq]
      rfl
    repeat' first
      | with_reducible refine st_ift ?_
      | with_reducible refine st_iff ?_
      | ((with_reducible apply st_some); exact c0)
      | ((with_reducible apply st_callt); assumption; exact rfl; exact rfl; assumption)
      | ((with_reducible apply st_callf); assumption; exact rfl; exact rfl; assumption)
      | ((with_reducible apply st_call); assumption; exact rfl; exact rfl; exact rfl)
      | ((with_reducible apply st_wide); exact rfl; exact rfl)
      | ((with_reducible apply st_skip); exact rfl)
      | ((with_reducible apply st_t); exact rfl; exact rfl)
      | ((with_reducible apply st_f); exact rfl; exact rfl)
      | ((with_reducible apply st_t); exact rfl; assumption)
      | ((with_reducible apply st_f); exact rfl; assumption)
      | ((with_reducible apply st_some); exact rfl)
      | exact rfl
  have c0 : gev none (.fcm .neq .f64) [.flt x, .flt x] = some (.bool false) := by
    show some (D.bool (!feq .f64 x x)) = _
    rw [hq]
    rfl
  have hX : expW x = if fgt .f64 x 4641240890982006784 = true then 9218868437227405312 else if flt .f64 x 13864612927836782592 = true then 0 else sqE 8 (hornE (fdiv .f64 x 4643211215818981376) 12 4607182418800017408) := by unfold expW; rfl
  have hh := horn310s (G := G) (fdiv .f64 x 4643211215818981376) 12 4607182418800017408 (Nat.le_refl _)
  have hs := sq310s (G := G) 8 (hornE (fdiv .f64 x 4643211215818981376) 12 4607182418800017408) (Nat.le_refl _)
  have i1 := hh
  have i3 : F330 [.int 1] = some [.flt 9218868437227405312] := rfl
  cases hg : fgt .f64 x 4641240890982006784
  · cases hl : flt .f64 x 13864612927836782592
    · rw [hX, if_neg (by rw [hg]; decide), if_neg (by rw [hl]; decide)]
      repeat' first
        | with_reducible refine st_ift ?_
        | with_reducible refine st_iff ?_
        | ((with_reducible apply st_some); exact c0)
        | ((with_reducible apply st_join); exact (iter_fuel i1); exact rfl)
        | ((with_reducible apply st_join); exact (iter_fuel hs); exact rfl)
        | ((with_reducible apply st_callt); assumption; exact rfl; exact rfl; assumption)
        | ((with_reducible apply st_callf); assumption; exact rfl; exact rfl; assumption)
        | ((with_reducible apply st_call); assumption; exact rfl; exact rfl; exact rfl)
        | ((with_reducible apply st_wide); exact rfl; exact rfl)
        | ((with_reducible apply st_skip); exact rfl)
        | ((with_reducible apply st_t); exact rfl; exact rfl)
        | ((with_reducible apply st_f); exact rfl; exact rfl)
        | ((with_reducible apply st_t); exact rfl; assumption)
        | ((with_reducible apply st_f); exact rfl; assumption)
        | ((with_reducible apply st_some); exact rfl)
        | exact rfl
    · rw [hX, if_neg (by rw [hg]; decide), if_pos hl]
      repeat' first
        | with_reducible refine st_ift ?_
        | with_reducible refine st_iff ?_
        | ((with_reducible apply st_some); exact c0)
        | ((with_reducible apply st_callt); assumption; exact rfl; exact rfl; assumption)
        | ((with_reducible apply st_callf); assumption; exact rfl; exact rfl; assumption)
        | ((with_reducible apply st_call); assumption; exact rfl; exact rfl; exact rfl)
        | ((with_reducible apply st_wide); exact rfl; exact rfl)
        | ((with_reducible apply st_skip); exact rfl)
        | ((with_reducible apply st_t); exact rfl; exact rfl)
        | ((with_reducible apply st_f); exact rfl; exact rfl)
        | ((with_reducible apply st_t); exact rfl; assumption)
        | ((with_reducible apply st_f); exact rfl; assumption)
        | ((with_reducible apply st_some); exact rfl)
        | exact rfl
  · rw [hX, if_pos hg]
    repeat' first
      | with_reducible refine st_ift ?_
      | with_reducible refine st_iff ?_
      | ((with_reducible apply st_some); exact c0)
      | ((with_reducible apply st_call); exact g330; exact rfl; exact i3; exact rfl)
      | ((with_reducible apply st_callt); assumption; exact rfl; exact rfl; assumption)
      | ((with_reducible apply st_callf); assumption; exact rfl; exact rfl; assumption)
      | ((with_reducible apply st_call); assumption; exact rfl; exact rfl; exact rfl)
      | ((with_reducible apply st_wide); exact rfl; exact rfl)
      | ((with_reducible apply st_skip); exact rfl)
      | ((with_reducible apply st_t); exact rfl; exact rfl)
      | ((with_reducible apply st_f); exact rfl; exact rfl)
      | ((with_reducible apply st_t); exact rfl; assumption)
      | ((with_reducible apply st_f); exact rfl; assumption)
      | ((with_reducible apply st_some); exact rfl)
      | exact rfl

set_option maxHeartbeats 4000000 in
theorem run310 {G : Told} (g330 : G 330 = F330) : ∀ ds rs, F310 ds = some rs → ∃ fuel, run G fuel T310 ds = some (0, rs) := by
  intro ds rs h
  unfold F310 at h
  split at h
  case h_2 => cases h
  rename_i x
  split at h
  · cases h
  rename_i hnan
  simp only [Option.some.injEq] at h
  subst h
  refine ⟨13, ?_⟩
  rw [eq310]
  unfold S310
  have hX : expW x = if fgt .f64 x 4641240890982006784 = true then 9218868437227405312 else if flt .f64 x 13864612927836782592 = true then 0 else sqE 8 (hornE (fdiv .f64 x 4643211215818981376) 12 4607182418800017408) := by unfold expW; rfl
  have hh := horn310 (G := G) (fdiv .f64 x 4643211215818981376) 12 4607182418800017408 (Nat.le_refl _)
  have hs := sq310 (G := G) 8 (hornE (fdiv .f64 x 4643211215818981376) 12 4607182418800017408) (Nat.le_refl _)
  have hh2 := hh
  rw [show i2f .f64 ((12 : Nat) : Int) = 4622945017495814144 from kf12] at hh2
  have i1 := hh2
  have i3 : F330 [.int 1] = some [.flt 9218868437227405312] := rfl
  cases hg : fgt .f64 x 4641240890982006784
  · cases hl : flt .f64 x 13864612927836782592
    · rw [hX, if_neg (by rw [hg]; decide), if_neg (by rw [hl]; decide)]
      repeat' first
        | with_reducible refine st_ift ?_
        | with_reducible refine st_iff ?_
        | ((with_reducible apply st_join); exact (iter_fuel i1); exact rfl)
        | ((with_reducible apply st_join); exact (iter_fuel hs); exact rfl)
        | ((with_reducible apply st_callt); assumption; exact rfl; exact rfl; assumption)
        | ((with_reducible apply st_callf); assumption; exact rfl; exact rfl; assumption)
        | ((with_reducible apply st_call); assumption; exact rfl; exact rfl; exact rfl)
        | ((with_reducible apply st_wide); exact rfl; exact rfl)
        | ((with_reducible apply st_skip); exact rfl)
        | ((with_reducible apply st_t); exact rfl; exact rfl)
        | ((with_reducible apply st_f); exact rfl; exact rfl)
        | ((with_reducible apply st_t); exact rfl; assumption)
        | ((with_reducible apply st_f); exact rfl; assumption)
        | ((with_reducible apply st_some); exact rfl)
        | exact rfl
    · rw [hX, if_neg (by rw [hg]; decide), if_pos hl]
      repeat' first
        | with_reducible refine st_ift ?_
        | with_reducible refine st_iff ?_
        | ((with_reducible apply st_callt); assumption; exact rfl; exact rfl; assumption)
        | ((with_reducible apply st_callf); assumption; exact rfl; exact rfl; assumption)
        | ((with_reducible apply st_call); assumption; exact rfl; exact rfl; exact rfl)
        | ((with_reducible apply st_wide); exact rfl; exact rfl)
        | ((with_reducible apply st_skip); exact rfl)
        | ((with_reducible apply st_t); exact rfl; exact rfl)
        | ((with_reducible apply st_f); exact rfl; exact rfl)
        | ((with_reducible apply st_t); exact rfl; assumption)
        | ((with_reducible apply st_f); exact rfl; assumption)
        | ((with_reducible apply st_some); exact rfl)
        | exact rfl
  · rw [hX, if_pos hg]
    repeat' first
      | with_reducible refine st_ift ?_
      | with_reducible refine st_iff ?_
      | ((with_reducible apply st_call); exact g330; exact rfl; exact i3; exact rfl)
      | ((with_reducible apply st_callt); assumption; exact rfl; exact rfl; assumption)
      | ((with_reducible apply st_callf); assumption; exact rfl; exact rfl; assumption)
      | ((with_reducible apply st_call); assumption; exact rfl; exact rfl; exact rfl)
      | ((with_reducible apply st_wide); exact rfl; exact rfl)
      | ((with_reducible apply st_skip); exact rfl)
      | ((with_reducible apply st_t); exact rfl; exact rfl)
      | ((with_reducible apply st_f); exact rfl; exact rfl)
      | ((with_reducible apply st_t); exact rfl; assumption)
      | ((with_reducible apply st_f); exact rfl; assumption)
      | ((with_reducible apply st_some); exact rfl)
      | exact rfl

set_option maxHeartbeats 4000000 in
theorem run311 {G : Told} (g310 : G 310 = F310) : ∀ ds rs, F311 ds = some rs → ∃ fuel, run G fuel T311 ds = some (0, rs) := by
  intro ds rs h
  unfold F311 at h
  split at h
  case h_2 => cases h
  rename_i x
  simp only [Option.some.injEq] at h
  subst h
  refine ⟨0, ?_⟩
  rw [eq311]
  unfold S311
  repeat' first
    | with_reducible refine st_ift ?_
    | with_reducible refine st_iff ?_
    | ((with_reducible apply st_call); exact g310; exact rfl; exact (F310_wide x); exact rfl)
    | ((with_reducible apply st_callt); assumption; exact rfl; exact rfl; assumption)
    | ((with_reducible apply st_callf); assumption; exact rfl; exact rfl; assumption)
    | ((with_reducible apply st_call); assumption; exact rfl; exact rfl; exact rfl)
    | ((with_reducible apply st_wide); exact rfl; exact rfl)
    | ((with_reducible apply st_skip); exact rfl)
    | ((with_reducible apply st_t); exact rfl; exact rfl)
    | ((with_reducible apply st_f); exact rfl; exact rfl)
    | ((with_reducible apply st_t); exact rfl; assumption)
    | ((with_reducible apply st_f); exact rfl; assumption)
    | ((with_reducible apply st_some); exact rfl)
    | exact rfl

set_option maxHeartbeats 4000000 in
theorem run312 {G : Told} (g311 : G 311 = F311) : ∀ ds rs, F312 ds = some rs → ∃ fuel, run G fuel T312 ds = some (0, rs) := by
  intro ds rs h
  unfold F312 at h
  split at h
  case h_2 => cases h
  rename_i x
  obtain ⟨z, hz, rfl⟩ := map_some_eq h
  refine ⟨0, ?_⟩
  rw [eq312]
  unfold S312
  have c1 : gev none (.f2f .f64 .f32) [.flt (expW (wide x))] = some (.flt z) := by
    show (f2f .f64 .f32 (expW (wide x))).map D.flt = _
    rw [show f2f .f64 .f32 (expW (wide x)) = some z from hz]
    rfl
  have e1 : F311 [.flt x] = some [.flt (expW (wide x))] := rfl
  repeat' first
    | with_reducible refine st_ift ?_
    | with_reducible refine st_iff ?_
    | ((with_reducible apply st_call); exact g311; exact rfl; exact e1; exact rfl)
    | ((with_reducible apply st_some); exact c1)
    | ((with_reducible apply st_callt); assumption; exact rfl; exact rfl; assumption)
    | ((with_reducible apply st_callf); assumption; exact rfl; exact rfl; assumption)
    | ((with_reducible apply st_call); assumption; exact rfl; exact rfl; exact rfl)
    | ((with_reducible apply st_wide); exact rfl; exact rfl)
    | ((with_reducible apply st_skip); exact rfl)
    | ((with_reducible apply st_t); exact rfl; exact rfl)
    | ((with_reducible apply st_f); exact rfl; exact rfl)
    | ((with_reducible apply st_t); exact rfl; assumption)
    | ((with_reducible apply st_f); exact rfl; assumption)
    | ((with_reducible apply st_some); exact rfl)
    | exact rfl

set_option maxHeartbeats 4000000 in
theorem run312s {G : Told} (g10 : G 10 = F10) (g310 : G 310 = F310) : ∀ ds rs, F312 ds = some rs → ∃ fuel, run G fuel T312s ds = some (0, rs) := by
  intro ds rs h
  unfold F312 at h
  split at h
  case h_2 => cases h
  rename_i x
  obtain ⟨z, hz, rfl⟩ := map_some_eq h
  refine ⟨0, ?_⟩
  rw [eq312s]
  unfold S312s
  have e3 : F10 [.flt (expW (wide x))] = some [.flt z] := by
    show (f2f .f64 .f32 (expW (wide x))).map (fun y => [D.flt y]) = _
    rw [show f2f .f64 .f32 (expW (wide x)) = some z from hz]
    rfl
  repeat' first
    | with_reducible refine st_ift ?_
    | with_reducible refine st_iff ?_
    | ((with_reducible apply st_call); exact g310; exact rfl; exact (F310_wide x); exact rfl)
    | ((with_reducible apply st_call); exact g10; exact rfl; exact e3; exact rfl)
    | ((with_reducible apply st_callt); assumption; exact rfl; exact rfl; assumption)
    | ((with_reducible apply st_callf); assumption; exact rfl; exact rfl; assumption)
    | ((with_reducible apply st_call); assumption; exact rfl; exact rfl; exact rfl)
    | ((with_reducible apply st_wide); exact rfl; exact rfl)
    | ((with_reducible apply st_skip); exact rfl)
    | ((with_reducible apply st_t); exact rfl; exact rfl)
    | ((with_reducible apply st_f); exact rfl; exact rfl)
    | ((with_reducible apply st_t); exact rfl; assumption)
    | ((with_reducible apply st_f); exact rfl; assumption)
    | ((with_reducible apply st_some); exact rfl)
    | exact rfl

end Vs
