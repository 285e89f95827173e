/-
  NeckOf and IsHolding: what the functions compute, and the laws.
-/
import Derived.Test.YthgocnlbnghbbaaMf5
import Derived.Test.YthgocnlbnghbbaaD
import Derived.Test.YthgocnlbnghbbaaK3
namespace Vs
open Go

theorem wide_nan {x : Nat} (h : isnan .f64 (wide x) = true) : wide x = fnan .f64 := by
  have hx := f2f_wide x
  have key : ∀ y, isnan .f64 (canon .f64 y) = true → canon .f64 y = fnan .f64 := by
    intro y hy
    unfold canon at hy ⊢
    split
    · rfl
    · rename_i hn
      rw [if_neg hn] at hy
      exact absurd hy hn
  unfold f2f at hx
  rw [if_neg (by decide)] at hx
  split at hx
  · simp only [Option.some.injEq] at hx
    exact hx.symm
  · simp only [Option.some.injEq] at hx
    rw [← hx] at h ⊢
    exact key _ h
  · split at hx
    · cases hx
    · simp only [Option.some.injEq] at hx
      rw [← hx] at h ⊢
      exact key _ h
def F330 : List D → Option (List D) | [.int n] => some [.flt (if 0 ≤ n then 9218868437227405312 else 18442240474082181120)] | _ => none
def F310 : List D → Option (List D) | [.flt x] => if isnan .f64 x = true ∧ x ≠ fnan .f64 then none else some [.flt (expW x)] | _ => none
def F311 : List D → Option (List D) | [.flt x] => some [.flt (expW (wide x))] | _ => none
def F312 : List D → Option (List D) | [.flt x] => (expO x).map fun z => [.flt z] | _ => none
def F313 : List D → Option (List D) | [.flt x] => (coshO x).map fun z => [.flt z] | _ => none
def F314 : List D → Option (List D) | [.flt x] => (sinhO x).map fun z => [.flt z] | _ => none
def F315 : List D → Option (List D) | [.flt n, .flt z] => if overP n = true then (widthO n z).map fun w => [.flt w, .bool true] else some [.flt 0, .bool false] | _ => none
def neckD : Option Nat → List D | some l => [.flt l, .bool true] | none => [.flt 0, .bool false]
def F317 : List D → Option (List D) | [.flt r, .flt g] => if (overP r && overP g) = true then (neckO r g).map neckD else some [.flt 0, .bool false] | _ => none
def F319 : List D → Option (List D) | [.flt n, .flt g] => if (overP n && overP g) = true then (areaO n g).map fun a => [.flt a, .bool true] else some [.flt 0, .bool false] | _ => none
def holdO (r g : Nat) : Option Nat → Option Bool
  | none => some false
  | some l => (areaO l g).map fun a => fle .f32 a (fmul .f32 (fmul .f32 1086918619 r) r)
def F321 : List D → Option (List D) | [.flt r, .flt g] => if (overP r && overP g) = true then ((neckO r g).bind (holdO r g)).map fun b => [.bool b] else some [.bool false] | _ => none
theorem F310_wide (x : Nat) : F310 [.flt (wide x)] = some [.flt (expW (wide x))] := by
  unfold F310
  simp only
  rw [if_neg]
  intro h
  exact h.2 (wide_nan h.1)
theorem gev_half (x : Nat) : gev none (.far .quo .f32) [.flt x, .flt 1073741824] = some (.flt (fmul .f32 1056964608 x)) := by
  rw [← half_div]
  rfl
theorem F317_some (r g : Nat) : ∃ a b, F317 [.flt r, .flt g] = some [.flt a, .bool b] := by
  unfold F317
  simp only
  split
  · rename_i h
    simp only [Bool.and_eq_true] at h
    obtain ⟨o, ho, _⟩ := neck_R h.1 h.2
    rw [ho]
    cases o <;> exact ⟨_, _, rfl⟩
  · exact ⟨_, _, rfl⟩
def T330 : T :=
(.op none (.icm .geq) [(.v 0), (.c (.int 0))] <|
(.join 1
  (.ite (.v 1)
    (.out 0 [(.c (.int 9218868437227405312))])
    (.out 0 [(.c (.int 18442240474082181120))]))
(.op none (.b2f .f64) [(.v 2)] <|
(.out 0 [(.v 3)]))))
def S330 (_G : Told) (_fuel : Nat) (x0 : D) : Option (Nat × List D) :=
  (gev none (.icm .geq) [x0, (.int 0)]).bind fun x1 =>
  tjoin 1 (
    tif x1 (
      some (0, [(.int 9218868437227405312)])) (
      some (0, [(.int 18442240474082181120)]))) fun e2 =>
  (gev none (.b2f .f64) [(e2.getD 0 .undef)]).bind fun x3 =>
  some (0, [x3])
theorem eq330 {G : Told} {fuel : Nat} (x0 : D) : run G fuel T330 [x0] = S330 G fuel x0 := by
  rw [run_eq]; kernel_rfl

def T310 : T :=
(.op none (.fcm .gtr .f64) [(.v 0), (.c (.flt 4641240890982006784))] <|
(.ite (.v 1)
  (.call none 330 [(.c (.int 1))] 1 <|
  (.out 0 [(.v 2)]))
  (.op none (.fcm .lss .f64) [(.v 0), (.c (.flt 13864612927836782592))] <|
  (.ite (.v 2)
    (.out 0 [(.c (.flt 0))])
    (.op none (.far .quo .f64) [(.v 0), (.c (.flt 4643211215818981376))] <|
    (.join 4
      (.loop [(.c (.flt 4607182418800017408)), (.c (.flt 4622945017495814144))]
        (.op none (.fcm .geq .f64) [(.v 5), (.c (.flt 4607182418800017408))] <|
        (.ite (.v 6)
          (.op none (.far .mul .f64) [(.v 3), (.v 4)] <|
          (.op none (.far .quo .f64) [(.v 7), (.v 5)] <|
          (.op none (.far .add .f64) [(.c (.flt 4607182418800017408)), (.v 8)] <|
          (.op none (.far .sub .f64) [(.v 5), (.c (.flt 4607182418800017408))] <|
          (.out 0 [(.v 9), (.v 10)])))))
          (.out 1 [(.v 4), (.v 5), (.v 5), (.v 6)]))))
    (.join 3
      (.loop [(.v 4), (.c (.int 0))]
        (.op none (.icm .lss) [(.v 9), (.c (.int 8))] <|
        (.ite (.v 10)
          (.op none (.far .mul .f64) [(.v 8), (.v 8)] <|
          (.op none (.iar .add .i64) [(.v 9), (.c (.int 1))] <|
          (.out 0 [(.v 11), (.v 12)])))
          (.out 1 [(.v 8), (.v 9), (.v 10)]))))
    (.out 0 [(.v 8)]))))))))
def S310L0 (_G : Told) : List D → Option (Nat × List D) := fun e8 =>
          (gev none (.icm .lss) [(e8.getD 1 .undef), (.int 8)]).bind fun x10 =>
          tif x10 (
            (gev none (.far .mul .f64) [(e8.getD 0 .undef), (e8.getD 0 .undef)]).bind fun x11 =>
            (gev none (.iar .add .i64) [(e8.getD 1 .undef), (.int 1)]).bind fun x12 =>
            some (0, [x11, x12])) (
            some (1, [(e8.getD 0 .undef), (e8.getD 1 .undef), x10]))
def S310L1 (_G : Told) (x3 : D) : List D → Option (Nat × List D) := fun e4 =>
          (gev none (.fcm .geq .f64) [(e4.getD 1 .undef), (.flt 4607182418800017408)]).bind fun x6 =>
          tif x6 (
            (gev none (.far .mul .f64) [x3, (e4.getD 0 .undef)]).bind fun x7 =>
            (gev none (.far .quo .f64) [x7, (e4.getD 1 .undef)]).bind fun x8 =>
            (gev none (.far .add .f64) [(.flt 4607182418800017408), x8]).bind fun x9 =>
            (gev none (.far .sub .f64) [(e4.getD 1 .undef), (.flt 4607182418800017408)]).bind fun x10 =>
            some (0, [x9, x10])) (
            some (1, [(e4.getD 0 .undef), (e4.getD 1 .undef), (e4.getD 1 .undef), x6]))
def S310 (G : Told) (fuel : Nat) (x0 : D) : Option (Nat × List D) :=
  (gev none (.fcm .gtr .f64) [x0, (.flt 4641240890982006784)]).bind fun x1 =>
  tif x1 (
    (gcall G none 330 [(.int 1)] 1).bind fun e2 =>
    some (0, [(e2.getD 0 .undef)])) (
    (gev none (.fcm .lss .f64) [x0, (.flt 13864612927836782592)]).bind fun x2 =>
    tif x2 (
      some (0, [(.flt 0)])) (
      (gev none (.far .quo .f64) [x0, (.flt 4643211215818981376)]).bind fun x3 =>
      tjoin 4 (
        iter (tbody 2 (S310L1 G x3)) fuel [(.flt 4607182418800017408), (.flt 4622945017495814144)]) fun e4 =>
      tjoin 3 (
        iter (tbody 2 (S310L0 G )) fuel [(e4.getD 0 .undef), (.int 0)]) fun e8 =>
      some (0, [(e8.getD 0 .undef)])))
theorem eq310 {G : Told} {fuel : Nat} (x0 : D) : run G fuel T310 [x0] = S310 G fuel x0 := by
  rw [run_eq]; kernel_rfl

def T311 : T :=
(.op none (.f2f .f32 .f64) [(.v 0)] <|
(.call none 310 [(.v 1)] 1 <|
(.out 0 [(.v 2)])))
def S311 (G : Told) (_fuel : Nat) (x0 : D) : Option (Nat × List D) :=
  (gev none (.f2f .f32 .f64) [x0]).bind fun x1 =>
  (gcall G none 310 [x1] 1).bind fun e2 =>
  some (0, [(e2.getD 0 .undef)])
theorem eq311 {G : Told} {fuel : Nat} (x0 : D) : run G fuel T311 [x0] = S311 G fuel x0 := by
  rw [run_eq]; kernel_rfl

def T312 : T :=
(.call none 311 [(.v 0)] 1 <|
(.op none (.f2f .f64 .f32) [(.v 1)] <|
(.out 0 [(.v 2)])))
def S312 (G : Told) (_fuel : Nat) (x0 : D) : Option (Nat × List D) :=
  (gcall G none 311 [x0] 1).bind fun e1 =>
  (gev none (.f2f .f64 .f32) [(e1.getD 0 .undef)]).bind fun x2 =>
  some (0, [x2])
theorem eq312 {G : Told} {fuel : Nat} (x0 : D) : run G fuel T312 [x0] = S312 G fuel x0 := by
  rw [run_eq]; kernel_rfl

def T313 : T :=
(.call none 312 [(.v 0)] 1 <|
(.op none (.fneg .f32) [(.v 0)] <|
(.call none 312 [(.v 2)] 1 <|
(.op none (.far .add .f32) [(.v 1), (.v 3)] <|
(.op none (.far .quo .f32) [(.v 4), (.c (.flt 1073741824))] <|
(.out 0 [(.v 5)]))))))
def S313 (G : Told) (_fuel : Nat) (x0 : D) : Option (Nat × List D) :=
  (gcall G none 312 [x0] 1).bind fun e1 =>
  (gev none (.fneg .f32) [x0]).bind fun x2 =>
  (gcall G none 312 [x2] 1).bind fun e3 =>
  (gev none (.far .add .f32) [(e1.getD 0 .undef), (e3.getD 0 .undef)]).bind fun x4 =>
  (gev none (.far .quo .f32) [x4, (.flt 1073741824)]).bind fun x5 =>
  some (0, [x5])
theorem eq313 {G : Told} {fuel : Nat} (x0 : D) : run G fuel T313 [x0] = S313 G fuel x0 := by
  rw [run_eq]; kernel_rfl

def T314 : T :=
(.call none 312 [(.v 0)] 1 <|
(.op none (.fneg .f32) [(.v 0)] <|
(.call none 312 [(.v 2)] 1 <|
(.op none (.far .sub .f32) [(.v 1), (.v 3)] <|
(.op none (.far .quo .f32) [(.v 4), (.c (.flt 1073741824))] <|
(.out 0 [(.v 5)]))))))
def S314 (G : Told) (_fuel : Nat) (x0 : D) : Option (Nat × List D) :=
  (gcall G none 312 [x0] 1).bind fun e1 =>
  (gev none (.fneg .f32) [x0]).bind fun x2 =>
  (gcall G none 312 [x2] 1).bind fun e3 =>
  (gev none (.far .sub .f32) [(e1.getD 0 .undef), (e3.getD 0 .undef)]).bind fun x4 =>
  (gev none (.far .quo .f32) [x4, (.flt 1073741824)]).bind fun x5 =>
  some (0, [x5])
theorem eq314 {G : Told} {fuel : Nat} (x0 : D) : run G fuel T314 [x0] = S314 G fuel x0 := by
  rw [run_eq]; kernel_rfl

def T315 : T :=
(.call none 2 [(.v 0)] 1 <|
(.op none .bnot [(.v 2)] <|
(.ite (.v 3)
  (.out 0 [(.c (.flt 0)), (.c (.bool false))])
  (.op none (.far .quo .f32) [(.v 1), (.v 0)] <|
  (.call none 313 [(.v 4)] 1 <|
  (.op none (.far .mul .f32) [(.v 0), (.v 5)] <|
  (.out 0 [(.v 6), (.c (.bool true))])))))))
def S315 (G : Told) (_fuel : Nat) (x0 x1 : D) : Option (Nat × List D) :=
  (gcall G none 2 [x0] 1).bind fun e2 =>
  (gev none .bnot [(e2.getD 0 .undef)]).bind fun x3 =>
  tif x3 (
    some (0, [(.flt 0), (.bool false)])) (
    (gev none (.far .quo .f32) [x1, x0]).bind fun x4 =>
    (gcall G none 313 [x4] 1).bind fun e5 =>
    (gev none (.far .mul .f32) [x0, (e5.getD 0 .undef)]).bind fun x6 =>
    some (0, [x6, (.bool true)]))
theorem eq315 {G : Told} {fuel : Nat} (x0 x1 : D) : run G fuel T315 [x0, x1] = S315 G fuel x0 x1 := by
  rw [run_eq]; kernel_rfl

def T317 : T :=
(.call none 2 [(.v 0)] 1 <|
(.op none .bnot [(.v 2)] <|
(.op (some ((.v 3), false)) .id [(.v 1)] <|
(.call (some ((.v 3), false)) 2 [(.v 4)] 1 <|
(.op (some ((.v 3), false)) .bnot [(.v 5)] <|
(.op none .pick [(.v 3), (.c (.bool true)), (.v 6)] <|
(.ite (.v 7)
  (.out 0 [(.c (.flt 0)), (.c (.bool false))])
  (.op none (.far .quo .f32) [(.v 1), (.c (.flt 1073741824))] <|
  (.op none (.far .quo .f32) [(.v 8), (.c (.flt 1067028242))] <|
  (.call none 315 [(.v 9), (.v 8)] 2 <|
  (.op none .bnot [(.v 11)] <|
  (.op (some ((.v 12), false)) .id [(.v 10)] <|
  (.op (some ((.v 12), false)) .id [(.v 0)] <|
  (.op (some ((.v 12), false)) (.fcm .leq .f32) [(.v 13), (.v 14)] <|
  (.op (some ((.v 12), false)) .bnot [(.v 15)] <|
  (.op none .pick [(.v 12), (.c (.bool true)), (.v 16)] <|
  (.op (some ((.v 17), false)) .id [(.v 9)] <|
  (.op (some ((.v 17), false)) .id [(.v 0)] <|
  (.op (some ((.v 17), false)) (.fcm .gtr .f32) [(.v 18), (.v 19)] <|
  (.op none .pick [(.v 17), (.c (.bool true)), (.v 20)] <|
  (.ite (.v 21)
    (.out 0 [(.c (.flt 0)), (.c (.bool false))])
    (.join 4
      (.loop [(.v 9), (.v 0), (.c (.int 0))]
        (.op none (.icm .lss) [(.v 24), (.c (.int 30))] <|
        (.ite (.v 25)
          (.op none (.far .add .f32) [(.v 22), (.v 23)] <|
          (.op none (.far .quo .f32) [(.v 26), (.c (.flt 1073741824))] <|
          (.call none 315 [(.v 27), (.v 8)] 2 <|
          (.op (some ((.v 29), true)) .id [(.v 28)] <|
          (.op (some ((.v 29), true)) .id [(.v 0)] <|
          (.op (some ((.v 29), true)) (.fcm .leq .f32) [(.v 30), (.v 31)] <|
          (.op none .pick [(.v 29), (.v 32), (.c (.bool false))] <|
          (.join 2
            (.ite (.v 33)
              (.out 0 [(.v 27), (.v 23)])
              (.out 0 [(.v 22), (.v 27)]))
          (.op none (.iar .add .i64) [(.v 24), (.c (.int 1))] <|
          (.out 0 [(.v 34), (.v 35), (.v 36)]))))))))))
          (.out 1 [(.v 22), (.v 23), (.v 24), (.v 25)]))))
    (.out 0 [(.v 22), (.c (.bool true))])))))))))))))))))))))))
def S317L0 (G : Told) (x0 : D) (x8 : D) : List D → Option (Nat × List D) := fun e22 =>
          (gev none (.icm .lss) [(e22.getD 2 .undef), (.int 30)]).bind fun x25 =>
          tif x25 (
            (gev none (.far .add .f32) [(e22.getD 0 .undef), (e22.getD 1 .undef)]).bind fun x26 =>
            (gev none (.far .quo .f32) [x26, (.flt 1073741824)]).bind fun x27 =>
            (gcall G none 315 [x27, x8] 2).bind fun e28 =>
            (gev (some ((e28.getD 1 .undef), true)) .id [(e28.getD 0 .undef)]).bind fun x30 =>
            (gev (some ((e28.getD 1 .undef), true)) .id [x0]).bind fun x31 =>
            (gev (some ((e28.getD 1 .undef), true)) (.fcm .leq .f32) [x30, x31]).bind fun x32 =>
            (gev none .pick [(e28.getD 1 .undef), x32, (.bool false)]).bind fun x33 =>
            tjoin 2 (
              tif x33 (
                some (0, [x27, (e22.getD 1 .undef)])) (
                some (0, [(e22.getD 0 .undef), x27]))) fun e34 =>
            (gev none (.iar .add .i64) [(e22.getD 2 .undef), (.int 1)]).bind fun x36 =>
            some (0, [(e34.getD 0 .undef), (e34.getD 1 .undef), x36])) (
            some (1, [(e22.getD 0 .undef), (e22.getD 1 .undef), (e22.getD 2 .undef), x25]))
def S317 (G : Told) (fuel : Nat) (x0 x1 : D) : Option (Nat × List D) :=
  (gcall G none 2 [x0] 1).bind fun e2 =>
  (gev none .bnot [(e2.getD 0 .undef)]).bind fun x3 =>
  (gev (some (x3, false)) .id [x1]).bind fun x4 =>
  (gcall G (some (x3, false)) 2 [x4] 1).bind fun e5 =>
  (gev (some (x3, false)) .bnot [(e5.getD 0 .undef)]).bind fun x6 =>
  (gev none .pick [x3, (.bool true), x6]).bind fun x7 =>
  tif x7 (
    some (0, [(.flt 0), (.bool false)])) (
    (gev none (.far .quo .f32) [x1, (.flt 1073741824)]).bind fun x8 =>
    (gev none (.far .quo .f32) [x8, (.flt 1067028242)]).bind fun x9 =>
    (gcall G none 315 [x9, x8] 2).bind fun e10 =>
    (gev none .bnot [(e10.getD 1 .undef)]).bind fun x12 =>
    (gev (some (x12, false)) .id [(e10.getD 0 .undef)]).bind fun x13 =>
    (gev (some (x12, false)) .id [x0]).bind fun x14 =>
    (gev (some (x12, false)) (.fcm .leq .f32) [x13, x14]).bind fun x15 =>
    (gev (some (x12, false)) .bnot [x15]).bind fun x16 =>
    (gev none .pick [x12, (.bool true), x16]).bind fun x17 =>
    (gev (some (x17, false)) .id [x9]).bind fun x18 =>
    (gev (some (x17, false)) .id [x0]).bind fun x19 =>
    (gev (some (x17, false)) (.fcm .gtr .f32) [x18, x19]).bind fun x20 =>
    (gev none .pick [x17, (.bool true), x20]).bind fun x21 =>
    tif x21 (
      some (0, [(.flt 0), (.bool false)])) (
      tjoin 4 (
        iter (tbody 3 (S317L0 G x0 x8)) fuel [x9, x0, (.int 0)]) fun e22 =>
      some (0, [(e22.getD 0 .undef), (.bool true)])))
theorem eq317 {G : Told} {fuel : Nat} (x0 x1 : D) : run G fuel T317 [x0, x1] = S317 G fuel x0 x1 := by
  rw [run_eq]; kernel_rfl

def T319 : T :=
(.call none 2 [(.v 0)] 1 <|
(.op none .bnot [(.v 2)] <|
(.op (some ((.v 3), false)) .id [(.v 1)] <|
(.call (some ((.v 3), false)) 2 [(.v 4)] 1 <|
(.op (some ((.v 3), false)) .bnot [(.v 5)] <|
(.op none .pick [(.v 3), (.c (.bool true)), (.v 6)] <|
(.ite (.v 7)
  (.out 0 [(.c (.flt 0)), (.c (.bool false))])
  (.op none (.far .mul .f32) [(.c (.flt 1078530011)), (.v 0)] <|
  (.op none (.far .quo .f32) [(.v 1), (.v 0)] <|
  (.call none 314 [(.v 9)] 1 <|
  (.op none (.far .mul .f32) [(.v 0), (.v 10)] <|
  (.op none (.far .add .f32) [(.v 1), (.v 11)] <|
  (.op none (.far .mul .f32) [(.v 8), (.v 12)] <|
  (.out 0 [(.v 13), (.c (.bool true))]))))))))))))))
def S319 (G : Told) (_fuel : Nat) (x0 x1 : D) : Option (Nat × List D) :=
  (gcall G none 2 [x0] 1).bind fun e2 =>
  (gev none .bnot [(e2.getD 0 .undef)]).bind fun x3 =>
  (gev (some (x3, false)) .id [x1]).bind fun x4 =>
  (gcall G (some (x3, false)) 2 [x4] 1).bind fun e5 =>
  (gev (some (x3, false)) .bnot [(e5.getD 0 .undef)]).bind fun x6 =>
  (gev none .pick [x3, (.bool true), x6]).bind fun x7 =>
  tif x7 (
    some (0, [(.flt 0), (.bool false)])) (
    (gev none (.far .mul .f32) [(.flt 1078530011), x0]).bind fun x8 =>
    (gev none (.far .quo .f32) [x1, x0]).bind fun x9 =>
    (gcall G none 314 [x9] 1).bind fun e10 =>
    (gev none (.far .mul .f32) [x0, (e10.getD 0 .undef)]).bind fun x11 =>
    (gev none (.far .add .f32) [x1, x11]).bind fun x12 =>
    (gev none (.far .mul .f32) [x8, x12]).bind fun x13 =>
    some (0, [x13, (.bool true)]))
theorem eq319 {G : Told} {fuel : Nat} (x0 x1 : D) : run G fuel T319 [x0, x1] = S319 G fuel x0 x1 := by
  rw [run_eq]; kernel_rfl

def T321 : T :=
(.call none 317 [(.v 0), (.v 1)] 2 <|
(.op none .bnot [(.v 3)] <|
(.ite (.v 4)
  (.out 0 [(.c (.bool false))])
  (.call none 319 [(.v 2), (.v 1)] 2 <|
  (.call none 7 [(.v 0)] 2 <|
  (.op (some ((.v 6), true)) .id [(.v 8)] <|
  (.op none .pick [(.v 6), (.v 9), (.c (.bool false))] <|
  (.op (some ((.v 10), true)) .id [(.v 5)] <|
  (.op (some ((.v 10), true)) .id [(.v 7)] <|
  (.op (some ((.v 10), true)) (.fcm .leq .f32) [(.v 11), (.v 12)] <|
  (.op none .pick [(.v 10), (.v 13), (.c (.bool false))] <|
  (.out 0 [(.v 14)]))))))))))))
def S321 (G : Told) (_fuel : Nat) (x0 x1 : D) : Option (Nat × List D) :=
  (gcall G none 317 [x0, x1] 2).bind fun e2 =>
  (gev none .bnot [(e2.getD 1 .undef)]).bind fun x4 =>
  tif x4 (
    some (0, [(.bool false)])) (
    (gcall G none 319 [(e2.getD 0 .undef), x1] 2).bind fun e5 =>
    (gcall G none 7 [x0] 2).bind fun e7 =>
    (gev (some ((e5.getD 1 .undef), true)) .id [(e7.getD 1 .undef)]).bind fun x9 =>
    (gev none .pick [(e5.getD 1 .undef), x9, (.bool false)]).bind fun x10 =>
    (gev (some (x10, true)) .id [(e5.getD 0 .undef)]).bind fun x11 =>
    (gev (some (x10, true)) .id [(e7.getD 0 .undef)]).bind fun x12 =>
    (gev (some (x10, true)) (.fcm .leq .f32) [x11, x12]).bind fun x13 =>
    (gev none .pick [x10, x13, (.bool false)]).bind fun x14 =>
    some (0, [x14]))
theorem eq321 {G : Told} {fuel : Nat} (x0 x1 : D) : run G fuel T321 [x0, x1] = S321 G fuel x0 x1 := by
  rw [run_eq]; kernel_rfl

theorem kfs : ∀ n, n < 12 → fge .f64 (i2f .f64 ((n + 1 : Nat) : Int)) 4607182418800017408 = true ∧ fsub .f64 (i2f .f64 ((n + 1 : Nat) : Int)) 4607182418800017408 = i2f .f64 (n : Int) := by decide +kernel
theorem kf0 : fge .f64 (i2f .f64 0) 4607182418800017408 = false := by decide +kernel
theorem kf12 : i2f .f64 12 = 4622945017495814144 := by decide +kernel

attribute [local irreducible] fadd fsub fmul fdiv fneg finP overP feq flt fle fgt fge i2f f2f wide expW

theorem run330 {G : Told} : ∀ ds rs, F330 ds = some rs → ∃ fuel, run G fuel T330 ds = some (0, rs) := by
  intro ds rs h
  unfold F330 at h
  split at h
  case h_2 => cases h
  rename_i n
  simp only [Option.some.injEq] at h
  subst h
  refine ⟨0, ?_⟩
  rw [eq330]
  unfold S330
  have c1 : canon .f64 9218868437227405312 = 9218868437227405312 := by decide
  have c2 : canon .f64 18442240474082181120 = 18442240474082181120 := by decide
  by_cases hn : 0 ≤ n
  · have e1 : gev none (.icm .geq) [.int n, .int 0] = some (.bool true) := by simp [gev, gok, Prim.ev, icmp, hn]
    have e2 : gev none (.b2f .f64) [.int 9218868437227405312] = some (.flt 9218868437227405312) := by
      show some (D.flt (canon .f64 9218868437227405312)) = _
      rw [c1]
    rw [if_pos hn]
    repeat' first
      | with_reducible refine st_ift ?_
      | with_reducible refine st_iff ?_
      | ((with_reducible apply st_some); exact e1)
      | ((with_reducible apply st_some); exact e2)
      | ((with_reducible apply st_join); exact rfl; exact rfl)
      | ((with_reducible apply st_callt); assumption; exact rfl; exact rfl; assumption)
      | ((with_reducible apply st_callf); assumption; exact rfl; exact rfl; assumption)
      | ((with_reducible apply st_call); assumption; exact rfl; exact rfl; exact rfl)
      | ((with_reducible apply st_wide); exact rfl; exact rfl)
      | ((with_reducible apply st_skip); exact rfl)
      | ((with_reducible apply st_t); exact rfl; exact rfl)
      | ((with_reducible apply st_f); exact rfl; exact rfl)
      | ((with_reducible apply st_t); exact rfl; assumption)
      | ((with_reducible apply st_f); exact rfl; assumption)
      | ((with_reducible apply st_some); exact rfl)
      | exact rfl
  · have e1 : gev none (.icm .geq) [.int n, .int 0] = some (.bool false) := by simp [gev, gok, Prim.ev, icmp, hn]
    have e2 : gev none (.b2f .f64) [.int 18442240474082181120] = some (.flt 18442240474082181120) := by
      show some (D.flt (canon .f64 18442240474082181120)) = _
      rw [c2]
    rw [if_neg hn]
    repeat' first
      | with_reducible refine st_ift ?_
      | with_reducible refine st_iff ?_
      | ((with_reducible apply st_some); exact e1)
      | ((with_reducible apply st_some); exact e2)
      | ((with_reducible apply st_join); exact rfl; exact rfl)
      | ((with_reducible apply st_callt); assumption; exact rfl; exact rfl; assumption)
      | ((with_reducible apply st_callf); assumption; exact rfl; exact rfl; assumption)
      | ((with_reducible apply st_call); assumption; exact rfl; exact rfl; exact rfl)
      | ((with_reducible apply st_wide); exact rfl; exact rfl)
      | ((with_reducible apply st_skip); exact rfl)
      | ((with_reducible apply st_t); exact rfl; exact rfl)
      | ((with_reducible apply st_f); exact rfl; exact rfl)
      | ((with_reducible apply st_t); exact rfl; assumption)
      | ((with_reducible apply st_f); exact rfl; assumption)
      | ((with_reducible apply st_some); exact rfl)
      | exact rfl

set_option maxHeartbeats 4000000 in
theorem horn310 {G : Told} (t : Nat) : ∀ n p, n ≤ 12 → iter (tbody 2 (S310L1 G (.flt t))) (n + 1) [.flt p, .flt (i2f .f64 n)] = some (0, [.flt (hornE t n p), .flt (i2f .f64 0), .flt (i2f .f64 0), .bool false])
  | 0, p, _ => by
    have c1 : gev none (.fcm .geq .f64) [.flt (i2f .f64 0), .flt 4607182418800017408] = some (.bool false) := by
      show some (D.bool (fge .f64 (i2f .f64 0) 4607182418800017408)) = _
      rw [kf0]
    refine iter_end (f := 0) (l := 0) (ds' := [.flt p, .flt (i2f .f64 0), .flt (i2f .f64 0), .bool false]) ?_ rfl
    show S310L1 G (.flt t) [.flt p, .flt (i2f .f64 0)] = _
    unfold S310L1
    repeat' first
      | with_reducible refine st_ift ?_
      | with_reducible refine st_iff ?_
      | ((with_reducible apply st_some); exact c1)
      | ((with_reducible apply st_callt); assumption; exact rfl; exact rfl; assumption)
      | ((with_reducible apply st_callf); assumption; exact rfl; exact rfl; assumption)
      | ((with_reducible apply st_call); assumption; exact rfl; exact rfl; exact rfl)
      | ((with_reducible apply st_wide); exact rfl; exact rfl)
      | ((with_reducible apply st_skip); exact rfl)
      | ((with_reducible apply st_t); exact rfl; exact rfl)
      | ((with_reducible apply st_f); exact rfl; exact rfl)
      | ((with_reducible apply st_t); exact rfl; assumption)
      | ((with_reducible apply st_f); exact rfl; assumption)
      | ((with_reducible apply st_some); exact rfl)
      | exact rfl
  | n + 1, p, hn => by
    obtain ⟨k1, k2⟩ := kfs n (by omega)
    have c1 : gev none (.fcm .geq .f64) [.flt (i2f .f64 ((n + 1 : Nat) : Int)), .flt 4607182418800017408] = some (.bool true) := by
      show some (D.bool (fge .f64 (i2f .f64 ((n + 1 : Nat) : Int)) 4607182418800017408)) = _
      rw [k1]
    have c3 : gev none (.far .sub .f64) [.flt (i2f .f64 ((n + 1 : Nat) : Int)), .flt 4607182418800017408] = some (.flt (i2f .f64 n)) := by
      show some (D.flt (fsub .f64 (i2f .f64 ((n + 1 : Nat) : Int)) 4607182418800017408)) = _
      rw [k2]
    refine iter_go (ds' := [.flt (fadd .f64 4607182418800017408 (fdiv .f64 (fmul .f64 t p) (i2f .f64 ((n + 1 : Nat) : Int)))), .flt (i2f .f64 n)]) ?_ (horn310 t n _ (by omega))
    show S310L1 G (.flt t) [.flt p, .flt (i2f .f64 ((n + 1 : Nat) : Int))] = _
    unfold S310L1
    repeat' first
      | with_reducible refine st_ift ?_
      | with_reducible refine st_iff ?_
      | ((with_reducible apply st_some); exact c1)
      | ((with_reducible apply st_some); exact c3)
      | ((with_reducible apply st_callt); assumption; exact rfl; exact rfl; assumption)
      | ((with_reducible apply st_callf); assumption; exact rfl; exact rfl; assumption)
      | ((with_reducible apply st_call); assumption; exact rfl; exact rfl; exact rfl)
      | ((with_reducible apply st_wide); exact rfl; exact rfl)
      | ((with_reducible apply st_skip); exact rfl)
      | ((with_reducible apply st_t); exact rfl; exact rfl)
      | ((with_reducible apply st_f); exact rfl; exact rfl)
      | ((with_reducible apply st_t); exact rfl; assumption)
      | ((with_reducible apply st_f); exact rfl; assumption)
      | ((with_reducible apply st_some); exact rfl)
      | exact rfl

set_option maxHeartbeats 4000000 in
theorem sq310 {G : Told} : ∀ n p, n ≤ 8 → iter (tbody 2 (S310L0 G)) (n + 1) [.flt p, .int ((8 - n : Nat) : Int)] = some (0, [.flt (sqE n p), .int 8, .bool false])
  | 0, p, _ => by
    exact iter_end (f := 0) (l := 0) rfl rfl
  | n + 1, p, hn => by
    have e : (8 - n : Nat) = (8 - (n + 1)) + 1 := by omega
    have c1 : gev none (.icm .lss) [.int ((8 - (n + 1) : Nat) : Int), .int 8] = some (.bool true) := by simp [gev, gok, Prim.ev, icmp]; omega
    have c3 : gev none (.iar .add .i64) [.int ((8 - (n + 1) : Nat) : Int), .int 1] = some (.int ((8 - n : Nat) : Int)) := by rw [e]; exact add1n (by omega)
    refine iter_go (ds' := [.flt (fmul .f64 p p), .int ((8 - n : Nat) : Int)]) ?_ (sq310 n _ (by omega))
    show S310L0 G [.flt p, .int ((8 - (n + 1) : Nat) : Int)] = _
    unfold S310L0
    repeat' first
      | with_reducible refine st_ift ?_
      | with_reducible refine st_iff ?_
      | ((with_reducible apply st_some); exact c1)
      | ((with_reducible apply st_some); exact c3)
      | ((with_reducible apply st_callt); assumption; exact rfl; exact rfl; assumption)
      | ((with_reducible apply st_callf); assumption; exact rfl; exact rfl; assumption)
      | ((with_reducible apply st_call); assumption; exact rfl; exact rfl; exact rfl)
      | ((with_reducible apply st_wide); exact rfl; exact rfl)
      | ((with_reducible apply st_skip); exact rfl)
      | ((with_reducible apply st_t); exact rfl; exact rfl)
      | ((with_reducible apply st_f); exact rfl; exact rfl)
      | ((with_reducible apply st_t); exact rfl; assumption)
      | ((with_reducible apply st_f); exact rfl; assumption)
      | ((with_reducible apply st_some); exact rfl)
      | exact rfl

theorem iter_more {body : List D → Option (Nat × List D)} : ∀ {f : Nat} {ds : List D} {r}, iter body f ds = some r → ∀ k, iter body (f + k) ds = some r
  | 0, ds, r, h, k => by cases h
  | f + 1, ds, r, h, k => by
    rw [show f + 1 + k = (f + k) + 1 by omega]
    simp only [iter] at h ⊢
    split at h
    · rename_i ds' hb
      exact iter_more h k
    · exact h
    · cases h
theorem iter_fuel {body : List D → Option (Nat × List D)} {f g : Nat} {ds : List D} {r} (h : iter body f ds = some r) (hg : f ≤ g := by omega) : iter body g ds = some r := by
  have := iter_more h (g - f)
  rwa [show f + (g - f) = g by omega] at this

set_option maxHeartbeats 4000000 in
theorem run310 {G : Told} (g330 : G 330 = F330) : ∀ ds rs, F310 ds = some rs → ∃ fuel, run G fuel T310 ds = some (0, rs) := by
  intro ds rs h
  unfold F310 at h
  split at h
  case h_2 => cases h
  rename_i x
  split at h
  · cases h
  rename_i hnan
  simp only [Option.some.injEq] at h
  subst h
  refine ⟨13, ?_⟩
  rw [eq310]
  unfold S310
  have hX : expW x = if fgt .f64 x 4641240890982006784 = true then 9218868437227405312 else if flt .f64 x 13864612927836782592 = true then 0 else sqE 8 (hornE (fdiv .f64 x 4643211215818981376) 12 4607182418800017408) := by unfold expW; rfl
  have hh := horn310 (G := G) (fdiv .f64 x 4643211215818981376) 12 4607182418800017408 (Nat.le_refl _)
  have hs := sq310 (G := G) 8 (hornE (fdiv .f64 x 4643211215818981376) 12 4607182418800017408) (Nat.le_refl _)
  have hh2 := hh
  rw [show i2f .f64 ((12 : Nat) : Int) = 4622945017495814144 from kf12] at hh2
  have i1 := hh2
  have i3 : F330 [.int 1] = some [.flt 9218868437227405312] := rfl
  cases hg : fgt .f64 x 4641240890982006784
  · cases hl : flt .f64 x 13864612927836782592
    · rw [hX, if_neg (by rw [hg]; decide), if_neg (by rw [hl]; decide)]
      repeat' first
        | with_reducible refine st_ift ?_
        | with_reducible refine st_iff ?_
        | ((with_reducible apply st_join); exact (iter_fuel i1); exact rfl)
        | ((with_reducible apply st_join); exact (iter_fuel hs); exact rfl)
        | ((with_reducible apply st_callt); assumption; exact rfl; exact rfl; assumption)
        | ((with_reducible apply st_callf); assumption; exact rfl; exact rfl; assumption)
        | ((with_reducible apply st_call); assumption; exact rfl; exact rfl; exact rfl)
        | ((with_reducible apply st_wide); exact rfl; exact rfl)
        | ((with_reducible apply st_skip); exact rfl)
        | ((with_reducible apply st_t); exact rfl; exact rfl)
        | ((with_reducible apply st_f); exact rfl; exact rfl)
        | ((with_reducible apply st_t); exact rfl; assumption)
        | ((with_reducible apply st_f); exact rfl; assumption)
        | ((with_reducible apply st_some); exact rfl)
        | exact rfl
    · rw [hX, if_neg (by rw [hg]; decide), if_pos hl]
      repeat' first
        | with_reducible refine st_ift ?_
        | with_reducible refine st_iff ?_
        | ((with_reducible apply st_callt); assumption; exact rfl; exact rfl; assumption)
        | ((with_reducible apply st_callf); assumption; exact rfl; exact rfl; assumption)
        | ((with_reducible apply st_call); assumption; exact rfl; exact rfl; exact rfl)
        | ((with_reducible apply st_wide); exact rfl; exact rfl)
        | ((with_reducible apply st_skip); exact rfl)
        | ((with_reducible apply st_t); exact rfl; exact rfl)
        | ((with_reducible apply st_f); exact rfl; exact rfl)
        | ((with_reducible apply st_t); exact rfl; assumption)
        | ((with_reducible apply st_f); exact rfl; assumption)
        | ((with_reducible apply st_some); exact rfl)
        | exact rfl
  · rw [hX, if_pos hg]
    repeat' first
      | with_reducible refine st_ift ?_
      | with_reducible refine st_iff ?_
      | ((with_reducible apply st_call); exact g330; exact rfl; exact i3; exact rfl)
      | ((with_reducible apply st_callt); assumption; exact rfl; exact rfl; assumption)
      | ((with_reducible apply st_callf); assumption; exact rfl; exact rfl; assumption)
      | ((with_reducible apply st_call); assumption; exact rfl; exact rfl; exact rfl)
      | ((with_reducible apply st_wide); exact rfl; exact rfl)
      | ((with_reducible apply st_skip); exact rfl)
      | ((with_reducible apply st_t); exact rfl; exact rfl)
      | ((with_reducible apply st_f); exact rfl; exact rfl)
      | ((with_reducible apply st_t); exact rfl; assumption)
      | ((with_reducible apply st_f); exact rfl; assumption)
      | ((with_reducible apply st_some); exact rfl)
      | exact rfl

set_option maxHeartbeats 4000000 in
theorem run311 {G : Told} (g310 : G 310 = F310) : ∀ ds rs, F311 ds = some rs → ∃ fuel, run G fuel T311 ds = some (0, rs) := by
  intro ds rs h
  unfold F311 at h
  split at h
  case h_2 => cases h
  rename_i x
  simp only [Option.some.injEq] at h
  subst h
  refine ⟨0, ?_⟩
  rw [eq311]
  unfold S311
  repeat' first
    | with_reducible refine st_ift ?_
    | with_reducible refine st_iff ?_
    | ((with_reducible apply st_call); exact g310; exact rfl; exact (F310_wide x); exact rfl)
    | ((with_reducible apply st_callt); assumption; exact rfl; exact rfl; assumption)
    | ((with_reducible apply st_callf); assumption; exact rfl; exact rfl; assumption)
    | ((with_reducible apply st_call); assumption; exact rfl; exact rfl; exact rfl)
    | ((with_reducible apply st_wide); exact rfl; exact rfl)
    | ((with_reducible apply st_skip); exact rfl)
    | ((with_reducible apply st_t); exact rfl; exact rfl)
    | ((with_reducible apply st_f); exact rfl; exact rfl)
    | ((with_reducible apply st_t); exact rfl; assumption)
    | ((with_reducible apply st_f); exact rfl; assumption)
    | ((with_reducible apply st_some); exact rfl)
    | exact rfl

set_option maxHeartbeats 4000000 in
theorem run312 {G : Told} (g311 : G 311 = F311) : ∀ ds rs, F312 ds = some rs → ∃ fuel, run G fuel T312 ds = some (0, rs) := by
  intro ds rs h
  unfold F312 at h
  split at h
  case h_2 => cases h
  rename_i x
  obtain ⟨z, hz, rfl⟩ := map_some_eq h
  refine ⟨0, ?_⟩
  rw [eq312]
  unfold S312
  have c1 : gev none (.f2f .f64 .f32) [.flt (expW (wide x))] = some (.flt z) := by
    show (f2f .f64 .f32 (expW (wide x))).map D.flt = _
    rw [show f2f .f64 .f32 (expW (wide x)) = some z from hz]
    rfl
  have e1 : F311 [.flt x] = some [.flt (expW (wide x))] := rfl
  repeat' first
    | with_reducible refine st_ift ?_
    | with_reducible refine st_iff ?_
    | ((with_reducible apply st_call); exact g311; exact rfl; exact e1; exact rfl)
    | ((with_reducible apply st_some); exact c1)
    | ((with_reducible apply st_callt); assumption; exact rfl; exact rfl; assumption)
    | ((with_reducible apply st_callf); assumption; exact rfl; exact rfl; assumption)
    | ((with_reducible apply st_call); assumption; exact rfl; exact rfl; exact rfl)
    | ((with_reducible apply st_wide); exact rfl; exact rfl)
    | ((with_reducible apply st_skip); exact rfl)
    | ((with_reducible apply st_t); exact rfl; exact rfl)
    | ((with_reducible apply st_f); exact rfl; exact rfl)
    | ((with_reducible apply st_t); exact rfl; assumption)
    | ((with_reducible apply st_f); exact rfl; assumption)
    | ((with_reducible apply st_some); exact rfl)
    | exact rfl

set_option maxHeartbeats 4000000 in
theorem run313 {G : Told} (g312 : G 312 = F312) : ∀ ds rs, F313 ds = some rs → ∃ fuel, run G fuel T313 ds = some (0, rs) := by
  intro ds rs h
  unfold F313 at h
  split at h
  case h_2 => cases h
  rename_i x
  obtain ⟨z, hz, rfl⟩ := map_some_eq h
  unfold coshO at hz
  obtain ⟨a, ha, hz⟩ := Option.bind_eq_some_iff.1 hz
  obtain ⟨b, hb, rfl⟩ := map_some_eq hz
  refine ⟨0, ?_⟩
  rw [eq313]
  unfold S313
  have e1 : F312 [.flt x] = some [.flt a] := by unfold F312; simp only [ha]; rfl
  have e2 : F312 [.flt (fneg .f32 x)] = some [.flt b] := by unfold F312; simp only [hb]; rfl
  repeat' first
    | with_reducible refine st_ift ?_
    | with_reducible refine st_iff ?_
    | ((with_reducible apply st_call); exact g312; exact rfl; exact e1; exact rfl)
    | ((with_reducible apply st_call); exact g312; exact rfl; exact e2; exact rfl)
    | ((with_reducible apply st_some); exact gev_half _)
    | ((with_reducible apply st_callt); assumption; exact rfl; exact rfl; assumption)
    | ((with_reducible apply st_callf); assumption; exact rfl; exact rfl; assumption)
    | ((with_reducible apply st_call); assumption; exact rfl; exact rfl; exact rfl)
    | ((with_reducible apply st_wide); exact rfl; exact rfl)
    | ((with_reducible apply st_skip); exact rfl)
    | ((with_reducible apply st_t); exact rfl; exact rfl)
    | ((with_reducible apply st_f); exact rfl; exact rfl)
    | ((with_reducible apply st_t); exact rfl; assumption)
    | ((with_reducible apply st_f); exact rfl; assumption)
    | ((with_reducible apply st_some); exact rfl)
    | exact rfl

set_option maxHeartbeats 4000000 in
theorem run314 {G : Told} (g312 : G 312 = F312) : ∀ ds rs, F314 ds = some rs → ∃ fuel, run G fuel T314 ds = some (0, rs) := by
  intro ds rs h
  unfold F314 at h
  split at h
  case h_2 => cases h
  rename_i x
  obtain ⟨z, hz, rfl⟩ := map_some_eq h
  unfold sinhO at hz
  obtain ⟨a, ha, hz⟩ := Option.bind_eq_some_iff.1 hz
  obtain ⟨b, hb, rfl⟩ := map_some_eq hz
  refine ⟨0, ?_⟩
  rw [eq314]
  unfold S314
  have e1 : F312 [.flt x] = some [.flt a] := by unfold F312; simp only [ha]; rfl
  have e2 : F312 [.flt (fneg .f32 x)] = some [.flt b] := by unfold F312; simp only [hb]; rfl
  repeat' first
    | with_reducible refine st_ift ?_
    | with_reducible refine st_iff ?_
    | ((with_reducible apply st_call); exact g312; exact rfl; exact e1; exact rfl)
    | ((with_reducible apply st_call); exact g312; exact rfl; exact e2; exact rfl)
    | ((with_reducible apply st_some); exact gev_half _)
    | ((with_reducible apply st_callt); assumption; exact rfl; exact rfl; assumption)
    | ((with_reducible apply st_callf); assumption; exact rfl; exact rfl; assumption)
    | ((with_reducible apply st_call); assumption; exact rfl; exact rfl; exact rfl)
    | ((with_reducible apply st_wide); exact rfl; exact rfl)
    | ((with_reducible apply st_skip); exact rfl)
    | ((with_reducible apply st_t); exact rfl; exact rfl)
    | ((with_reducible apply st_f); exact rfl; exact rfl)
    | ((with_reducible apply st_t); exact rfl; assumption)
    | ((with_reducible apply st_f); exact rfl; assumption)
    | ((with_reducible apply st_some); exact rfl)
    | exact rfl

set_option maxHeartbeats 4000000 in
theorem run315 {G : Told} (g2 : G 2 = F2) (g313 : G 313 = F313) : ∀ ds rs, F315 ds = some rs → ∃ fuel, run G fuel T315 ds = some (0, rs) := by
  intro ds rs h
  unfold F315 at h
  split at h
  case h_2 => cases h
  rename_i n z
  refine ⟨0, ?_⟩
  rw [eq315]
  unfold S315
  have e2 : F2 [.flt n] = some [.bool (overP n)] := rfl
  cases ho : overP n
  · rw [ho] at e2
    rw [if_neg (by rw [ho]; decide)] at h
    simp only [Option.some.injEq] at h
    subst h
    repeat' first
      | with_reducible refine st_ift ?_
      | with_reducible refine st_iff ?_
      | ((with_reducible apply st_call); exact g2; exact rfl; exact e2; exact rfl)
      | ((with_reducible apply st_callt); assumption; exact rfl; exact rfl; assumption)
      | ((with_reducible apply st_callf); assumption; exact rfl; exact rfl; assumption)
      | ((with_reducible apply st_call); assumption; exact rfl; exact rfl; exact rfl)
      | ((with_reducible apply st_wide); exact rfl; exact rfl)
      | ((with_reducible apply st_skip); exact rfl)
      | ((with_reducible apply st_t); exact rfl; exact rfl)
      | ((with_reducible apply st_f); exact rfl; exact rfl)
      | ((with_reducible apply st_t); exact rfl; assumption)
      | ((with_reducible apply st_f); exact rfl; assumption)
      | ((with_reducible apply st_some); exact rfl)
      | exact rfl
  · rw [ho] at e2
    rw [if_pos ho] at h
    obtain ⟨w, hw, rfl⟩ := map_some_eq h
    unfold widthO at hw
    obtain ⟨c, hc, rfl⟩ := map_some_eq hw
    have e3 : F313 [.flt (fdiv .f32 z n)] = some [.flt c] := by unfold F313; simp only [hc]; rfl
    repeat' first
      | with_reducible refine st_ift ?_
      | with_reducible refine st_iff ?_
      | ((with_reducible apply st_call); exact g2; exact rfl; exact e2; exact rfl)
      | ((with_reducible apply st_call); exact g313; exact rfl; exact e3; exact rfl)
      | ((with_reducible apply st_callt); assumption; exact rfl; exact rfl; assumption)
      | ((with_reducible apply st_callf); assumption; exact rfl; exact rfl; assumption)
      | ((with_reducible apply st_call); assumption; exact rfl; exact rfl; exact rfl)
      | ((with_reducible apply st_wide); exact rfl; exact rfl)
      | ((with_reducible apply st_skip); exact rfl)
      | ((with_reducible apply st_t); exact rfl; exact rfl)
      | ((with_reducible apply st_f); exact rfl; exact rfl)
      | ((with_reducible apply st_t); exact rfl; assumption)
      | ((with_reducible apply st_f); exact rfl; assumption)
      | ((with_reducible apply st_some); exact rfl)
      | exact rfl

set_option maxHeartbeats 4000000 in
theorem step317 {G : Told} (g315 : G 315 = F315) {r h lo hi : Nat} {k : Nat} {b : Bool} (hk : k < 30) (hb : fitsO r h (midP lo hi) = some b) :
    S317L0 G (.flt r) (.flt h) [.flt lo, .flt hi, .int k] = some (0, [.flt (if b = true then midP lo hi else lo), .flt (if b = true then hi else midP lo hi), .int ((k + 1 : Nat) : Int)]) := by
  unfold S317L0
  have c1 : gev none (.icm .lss) [.int k, .int 30] = some (.bool true) := by simp [gev, gok, Prim.ev, icmp]; omega
  have c2 := add1n (i := k) (by omega)
  have c3 : gev none (.far .quo .f32) [.flt (fadd .f32 lo hi), .flt 1073741824] = some (.flt (midP lo hi)) := gev_half _
  unfold fitsO at hb
  generalize midP lo hi = c at *
  cases ho : overP c
  · rw [if_neg (by rw [ho]; decide)] at hb
    simp only [Option.some.injEq] at hb
    subst hb
    have e1 : F315 [.flt c, .flt h] = some [.flt 0, .bool false] := by unfold F315; simp only; rw [if_neg (by rw [ho]; decide)]
    repeat' first
      | with_reducible refine st_ift ?_
      | with_reducible refine st_iff ?_
      | ((with_reducible apply st_call); exact g315; exact rfl; exact e1; exact rfl)
      | ((with_reducible apply st_join); exact rfl; exact rfl)
      | ((with_reducible apply st_some); exact c1)
      | ((with_reducible apply st_some); exact c2)
      | ((with_reducible apply st_some); exact c3)
      | ((with_reducible apply st_callt); assumption; exact rfl; exact rfl; assumption)
      | ((with_reducible apply st_callf); assumption; exact rfl; exact rfl; assumption)
      | ((with_reducible apply st_call); assumption; exact rfl; exact rfl; exact rfl)
      | ((with_reducible apply st_wide); exact rfl; exact rfl)
      | ((with_reducible apply st_skip); exact rfl)
      | ((with_reducible apply st_t); exact rfl; exact rfl)
      | ((with_reducible apply st_f); exact rfl; exact rfl)
      | ((with_reducible apply st_t); exact rfl; assumption)
      | ((with_reducible apply st_f); exact rfl; assumption)
      | ((with_reducible apply st_some); exact rfl)
      | exact rfl
  · rw [if_pos ho] at hb
    obtain ⟨w, hw, rfl⟩ := map_some_eq hb
    have e1 : F315 [.flt c, .flt h] = some [.flt w, .bool true] := by unfold F315; simp only; rw [if_pos ho, hw]; rfl
    have c5 : gev (some (.bool true, true)) (.fcm .leq .f32) [.flt w, .flt r] = some (.bool (fle .f32 w r)) := rfl
    cases hl : fle .f32 w r
    all_goals
      rw [hl] at c5
      repeat' first
        | with_reducible refine st_ift ?_
        | with_reducible refine st_iff ?_
        | ((with_reducible apply st_call); exact g315; exact rfl; exact e1; exact rfl)
        | ((with_reducible apply st_join); exact rfl; exact rfl)
        | ((with_reducible apply st_some); exact c1)
        | ((with_reducible apply st_some); exact c2)
        | ((with_reducible apply st_some); exact c3)
        | ((with_reducible apply st_some); exact c5)
        | ((with_reducible apply st_callt); assumption; exact rfl; exact rfl; assumption)
        | ((with_reducible apply st_callf); assumption; exact rfl; exact rfl; assumption)
        | ((with_reducible apply st_call); assumption; exact rfl; exact rfl; exact rfl)
        | ((with_reducible apply st_wide); exact rfl; exact rfl)
        | ((with_reducible apply st_skip); exact rfl)
        | ((with_reducible apply st_t); exact rfl; exact rfl)
        | ((with_reducible apply st_f); exact rfl; exact rfl)
        | ((with_reducible apply st_t); exact rfl; assumption)
        | ((with_reducible apply st_f); exact rfl; assumption)
        | ((with_reducible apply st_some); exact rfl)
        | exact rfl

theorem go317 {G : Told} (g315 : G 315 = F315) {r h l : Nat} : ∀ n lo hi, n ≤ 30 → neckGo r h n lo hi = some l →
    ∃ hi', iter (tbody 3 (S317L0 G (.flt r) (.flt h))) (n + 1) [.flt lo, .flt hi, .int ((30 - n : Nat) : Int)] = some (0, [.flt l, .flt hi', .int 30, .bool false])
  | 0, lo, hi, _, h1 => by
    simp only [neckGo, Option.some.injEq] at h1
    subst h1
    exact ⟨hi, iter_end (f := 0) (l := 0) rfl rfl⟩
  | n + 1, lo, hi, hn, h1 => by
    unfold neckGo at h1
    obtain ⟨b, hb, h2⟩ := Option.bind_eq_some_iff.1 h1
    have hs := step317 g315 (r := r) (h := h) (lo := lo) (hi := hi) (k := 30 - (n + 1)) (by omega) hb
    have e : (30 - (n + 1)) + 1 = 30 - n := by omega
    rw [e] at hs
    cases b
    · obtain ⟨hi', ih⟩ := go317 g315 n lo (midP lo hi) (by omega) h2
      exact ⟨hi', iter_go hs ih⟩
    · obtain ⟨hi', ih⟩ := go317 g315 n (midP lo hi) hi (by omega) h2
      exact ⟨hi', iter_go hs ih⟩

set_option maxHeartbeats 4000000 in
theorem run317 {G : Told} (g2 : G 2 = F2) (g315 : G 315 = F315) : ∀ ds rs, F317 ds = some rs → ∃ fuel, run G fuel T317 ds = some (0, rs) := by
  intro ds rs h
  unfold F317 at h
  split at h
  case h_2 => cases h
  rename_i r g
  refine ⟨31, ?_⟩
  rw [eq317]
  unfold S317
  have e2 : F2 [.flt r] = some [.bool (overP r)] := rfl
  have e3 : F2 [.flt g] = some [.bool (overP g)] := rfl
  cases hr : overP r
  · rw [hr] at e2
    rw [hr] at h
    simp only [Bool.false_and, Bool.false_eq_true, if_false, Option.some.injEq] at h
    subst h
    repeat' first
      | with_reducible refine st_ift ?_
      | with_reducible refine st_iff ?_
      | ((with_reducible apply st_call); exact g2; exact rfl; exact e2; exact rfl)
      | ((with_reducible apply st_callt); assumption; exact rfl; exact rfl; assumption)
      | ((with_reducible apply st_callf); assumption; exact rfl; exact rfl; assumption)
      | ((with_reducible apply st_call); assumption; exact rfl; exact rfl; exact rfl)
      | ((with_reducible apply st_wide); exact rfl; exact rfl)
      | ((with_reducible apply st_skip); exact rfl)
      | ((with_reducible apply st_t); exact rfl; exact rfl)
      | ((with_reducible apply st_f); exact rfl; exact rfl)
      | ((with_reducible apply st_t); exact rfl; assumption)
      | ((with_reducible apply st_f); exact rfl; assumption)
      | ((with_reducible apply st_some); exact rfl)
      | exact rfl
  cases hg : overP g
  · rw [hr] at e2
    rw [hg] at e3
    rw [hg] at h
    simp only [Bool.and_false, Bool.false_eq_true, if_false, Option.some.injEq] at h
    subst h
    repeat' first
      | with_reducible refine st_ift ?_
      | with_reducible refine st_iff ?_
      | ((with_reducible apply st_call); exact g2; exact rfl; exact e2; exact rfl)
      | ((with_reducible apply st_call); exact g2; exact rfl; exact e3; exact rfl)
      | ((with_reducible apply st_callt); assumption; exact rfl; exact rfl; assumption)
      | ((with_reducible apply st_callf); assumption; exact rfl; exact rfl; assumption)
      | ((with_reducible apply st_call); assumption; exact rfl; exact rfl; exact rfl)
      | ((with_reducible apply st_wide); exact rfl; exact rfl)
      | ((with_reducible apply st_skip); exact rfl)
      | ((with_reducible apply st_t); exact rfl; exact rfl)
      | ((with_reducible apply st_f); exact rfl; exact rfl)
      | ((with_reducible apply st_t); exact rfl; assumption)
      | ((with_reducible apply st_f); exact rfl; assumption)
      | ((with_reducible apply st_some); exact rfl)
      | exact rfl
  rw [if_pos (by rw [hr, hg]; rfl)] at h
  rw [hr] at e2
  rw [hg] at e3
  obtain ⟨o, ho, rfl⟩ := map_some_eq h
  unfold neckO at ho
  obtain ⟨b, hb, ho⟩ := Option.bind_eq_some_iff.1 ho
  have c1 : gev none (.far .quo .f32) [.flt g, .flt 1073741824] = some (.flt (halfP g)) := gev_half _
  have c2 : gev none (.far .quo .f32) [.flt (halfP g), .flt 1067028242] = some (.flt (lowP g)) := rfl
  unfold fitsO at hb
  clear h
  generalize halfP g = h at *
  generalize lowP g = l at *
  cases hol : overP l
  · rw [if_neg (by rw [hol]; decide)] at hb
    simp only [Option.some.injEq] at hb
    subst hb
    simp only [Bool.false_and, Bool.false_eq_true, if_false, Option.some.injEq] at ho
    subst ho
    have e1 : F315 [.flt l, .flt h] = some [.flt 0, .bool false] := by unfold F315; simp only; rw [if_neg (by rw [hol]; decide)]
    repeat' first
      | with_reducible refine st_ift ?_
      | with_reducible refine st_iff ?_
      | ((with_reducible apply st_call); exact g2; exact rfl; exact e2; exact rfl)
      | ((with_reducible apply st_call); exact g2; exact rfl; exact e3; exact rfl)
      | ((with_reducible apply st_call); exact g315; exact rfl; exact e1; exact rfl)
      | ((with_reducible apply st_some); exact c1)
      | ((with_reducible apply st_some); exact c2)
      | ((with_reducible apply st_callt); assumption; exact rfl; exact rfl; assumption)
      | ((with_reducible apply st_callf); assumption; exact rfl; exact rfl; assumption)
      | ((with_reducible apply st_call); assumption; exact rfl; exact rfl; exact rfl)
      | ((with_reducible apply st_wide); exact rfl; exact rfl)
      | ((with_reducible apply st_skip); exact rfl)
      | ((with_reducible apply st_t); exact rfl; exact rfl)
      | ((with_reducible apply st_f); exact rfl; exact rfl)
      | ((with_reducible apply st_t); exact rfl; assumption)
      | ((with_reducible apply st_f); exact rfl; assumption)
      | ((with_reducible apply st_some); exact rfl)
      | exact rfl
  rw [if_pos hol] at hb
  obtain ⟨w, hw, rfl⟩ := map_some_eq hb
  have e1 : F315 [.flt l, .flt h] = some [.flt w, .bool true] := by unfold F315; simp only; rw [if_pos hol, hw]; rfl
  have c5 : gev (some (.bool false, false)) (.fcm .leq .f32) [.flt w, .flt r] = some (.bool (fle .f32 w r)) := rfl
  have c6 : gev (some (.bool false, false)) (.fcm .gtr .f32) [.flt l, .flt r] = some (.bool (fgt .f32 l r)) := rfl
  cases hl : fle .f32 w r
  · rw [hl] at c5 ho
    simp only [Bool.false_and, Bool.false_eq_true, if_false, Option.some.injEq] at ho
    subst ho
    repeat' first
      | with_reducible refine st_ift ?_
      | with_reducible refine st_iff ?_
      | ((with_reducible apply st_call); exact g2; exact rfl; exact e2; exact rfl)
      | ((with_reducible apply st_call); exact g2; exact rfl; exact e3; exact rfl)
      | ((with_reducible apply st_call); exact g315; exact rfl; exact e1; exact rfl)
      | ((with_reducible apply st_some); exact c1)
      | ((with_reducible apply st_some); exact c2)
      | ((with_reducible apply st_some); exact c5)
      | ((with_reducible apply st_callt); assumption; exact rfl; exact rfl; assumption)
      | ((with_reducible apply st_callf); assumption; exact rfl; exact rfl; assumption)
      | ((with_reducible apply st_call); assumption; exact rfl; exact rfl; exact rfl)
      | ((with_reducible apply st_wide); exact rfl; exact rfl)
      | ((with_reducible apply st_skip); exact rfl)
      | ((with_reducible apply st_t); exact rfl; exact rfl)
      | ((with_reducible apply st_f); exact rfl; exact rfl)
      | ((with_reducible apply st_t); exact rfl; assumption)
      | ((with_reducible apply st_f); exact rfl; assumption)
      | ((with_reducible apply st_some); exact rfl)
      | exact rfl
  · cases hgt : fgt .f32 l r
    · rw [hl, hgt] at ho
      simp only [Bool.not_false, Bool.and_self, if_true] at ho
      rw [hl] at c5
      rw [hgt] at c6
      obtain ⟨x, hx, rfl⟩ := map_some_eq ho
      obtain ⟨hi', hgo⟩ := go317 g315 30 _ _ (Nat.le_refl _) hx
      repeat' first
        | with_reducible refine st_ift ?_
        | with_reducible refine st_iff ?_
        | ((with_reducible apply st_call); exact g2; exact rfl; exact e2; exact rfl)
        | ((with_reducible apply st_call); exact g2; exact rfl; exact e3; exact rfl)
        | ((with_reducible apply st_call); exact g315; exact rfl; exact e1; exact rfl)
        | ((with_reducible apply st_join); exact hgo; exact rfl)
        | ((with_reducible apply st_some); exact c1)
        | ((with_reducible apply st_some); exact c2)
        | ((with_reducible apply st_some); exact c5)
        | ((with_reducible apply st_some); exact c6)
        | ((with_reducible apply st_callt); assumption; exact rfl; exact rfl; assumption)
        | ((with_reducible apply st_callf); assumption; exact rfl; exact rfl; assumption)
        | ((with_reducible apply st_call); assumption; exact rfl; exact rfl; exact rfl)
        | ((with_reducible apply st_wide); exact rfl; exact rfl)
        | ((with_reducible apply st_skip); exact rfl)
        | ((with_reducible apply st_t); exact rfl; exact rfl)
        | ((with_reducible apply st_f); exact rfl; exact rfl)
        | ((with_reducible apply st_t); exact rfl; assumption)
        | ((with_reducible apply st_f); exact rfl; assumption)
        | ((with_reducible apply st_some); exact rfl)
        | exact rfl
    · rw [hl, hgt] at ho
      simp only [Bool.not_true, Bool.and_false, Bool.false_eq_true, if_false, Option.some.injEq] at ho
      subst ho
      rw [hl] at c5
      rw [hgt] at c6
      repeat' first
        | with_reducible refine st_ift ?_
        | with_reducible refine st_iff ?_
        | ((with_reducible apply st_call); exact g2; exact rfl; exact e2; exact rfl)
        | ((with_reducible apply st_call); exact g2; exact rfl; exact e3; exact rfl)
        | ((with_reducible apply st_call); exact g315; exact rfl; exact e1; exact rfl)
        | ((with_reducible apply st_some); exact c1)
        | ((with_reducible apply st_some); exact c2)
        | ((with_reducible apply st_some); exact c5)
        | ((with_reducible apply st_some); exact c6)
        | ((with_reducible apply st_callt); assumption; exact rfl; exact rfl; assumption)
        | ((with_reducible apply st_callf); assumption; exact rfl; exact rfl; assumption)
        | ((with_reducible apply st_call); assumption; exact rfl; exact rfl; exact rfl)
        | ((with_reducible apply st_wide); exact rfl; exact rfl)
        | ((with_reducible apply st_skip); exact rfl)
        | ((with_reducible apply st_t); exact rfl; exact rfl)
        | ((with_reducible apply st_f); exact rfl; exact rfl)
        | ((with_reducible apply st_t); exact rfl; assumption)
        | ((with_reducible apply st_f); exact rfl; assumption)
        | ((with_reducible apply st_some); exact rfl)
        | exact rfl

set_option maxHeartbeats 4000000 in
theorem run319 {G : Told} (g2 : G 2 = F2) (g314 : G 314 = F314) : ∀ ds rs, F319 ds = some rs → ∃ fuel, run G fuel T319 ds = some (0, rs) := by
  intro ds rs h
  unfold F319 at h
  split at h
  case h_2 => cases h
  rename_i r g
  refine ⟨0, ?_⟩
  rw [eq319]
  unfold S319
  have e2 : F2 [.flt r] = some [.bool (overP r)] := rfl
  have e3 : F2 [.flt g] = some [.bool (overP g)] := rfl
  cases hr : overP r
  · rw [hr] at e2
    rw [hr] at h
    simp only [Bool.false_and, Bool.false_eq_true, if_false, Option.some.injEq] at h
    subst h
    repeat' first
      | with_reducible refine st_ift ?_
      | with_reducible refine st_iff ?_
      | ((with_reducible apply st_call); exact g2; exact rfl; exact e2; exact rfl)
      | ((with_reducible apply st_callt); assumption; exact rfl; exact rfl; assumption)
      | ((with_reducible apply st_callf); assumption; exact rfl; exact rfl; assumption)
      | ((with_reducible apply st_call); assumption; exact rfl; exact rfl; exact rfl)
      | ((with_reducible apply st_wide); exact rfl; exact rfl)
      | ((with_reducible apply st_skip); exact rfl)
      | ((with_reducible apply st_t); exact rfl; exact rfl)
      | ((with_reducible apply st_f); exact rfl; exact rfl)
      | ((with_reducible apply st_t); exact rfl; assumption)
      | ((with_reducible apply st_f); exact rfl; assumption)
      | ((with_reducible apply st_some); exact rfl)
      | exact rfl
  cases hg : overP g
  · rw [hr] at e2
    rw [hg] at e3
    rw [hg] at h
    simp only [Bool.and_false, Bool.false_eq_true, if_false, Option.some.injEq] at h
    subst h
    repeat' first
      | with_reducible refine st_ift ?_
      | with_reducible refine st_iff ?_
      | ((with_reducible apply st_call); exact g2; exact rfl; exact e2; exact rfl)
      | ((with_reducible apply st_call); exact g2; exact rfl; exact e3; exact rfl)
      | ((with_reducible apply st_callt); assumption; exact rfl; exact rfl; assumption)
      | ((with_reducible apply st_callf); assumption; exact rfl; exact rfl; assumption)
      | ((with_reducible apply st_call); assumption; exact rfl; exact rfl; exact rfl)
      | ((with_reducible apply st_wide); exact rfl; exact rfl)
      | ((with_reducible apply st_skip); exact rfl)
      | ((with_reducible apply st_t); exact rfl; exact rfl)
      | ((with_reducible apply st_f); exact rfl; exact rfl)
      | ((with_reducible apply st_t); exact rfl; assumption)
      | ((with_reducible apply st_f); exact rfl; assumption)
      | ((with_reducible apply st_some); exact rfl)
      | exact rfl
  rw [if_pos (by rw [hr, hg]; rfl)] at h
  rw [hr] at e2
  rw [hg] at e3
  obtain ⟨a, ha, rfl⟩ := map_some_eq h
  unfold areaO at ha
  obtain ⟨c, hc, rfl⟩ := map_some_eq ha
  have e4 : F314 [.flt (fdiv .f32 g r)] = some [.flt c] := by unfold F314; simp only [hc]; rfl
  repeat' first
    | with_reducible refine st_ift ?_
    | with_reducible refine st_iff ?_
    | ((with_reducible apply st_call); exact g2; exact rfl; exact e2; exact rfl)
    | ((with_reducible apply st_call); exact g2; exact rfl; exact e3; exact rfl)
    | ((with_reducible apply st_call); exact g314; exact rfl; exact e4; exact rfl)
    | ((with_reducible apply st_callt); assumption; exact rfl; exact rfl; assumption)
    | ((with_reducible apply st_callf); assumption; exact rfl; exact rfl; assumption)
    | ((with_reducible apply st_call); assumption; exact rfl; exact rfl; exact rfl)
    | ((with_reducible apply st_wide); exact rfl; exact rfl)
    | ((with_reducible apply st_skip); exact rfl)
    | ((with_reducible apply st_t); exact rfl; exact rfl)
    | ((with_reducible apply st_f); exact rfl; exact rfl)
    | ((with_reducible apply st_t); exact rfl; assumption)
    | ((with_reducible apply st_f); exact rfl; assumption)
    | ((with_reducible apply st_some); exact rfl)
    | exact rfl

set_option maxHeartbeats 4000000 in
theorem run321 {G : Told} (g7 : G 7 = F7) (g317 : G 317 = F317) (g319 : G 319 = F319) : ∀ ds rs, F321 ds = some rs → ∃ fuel, run G fuel T321 ds = some (0, rs) := by
  intro ds rs h
  unfold F321 at h
  split at h
  case h_2 => cases h
  rename_i r g
  refine ⟨0, ?_⟩
  rw [eq321]
  unfold S321
  by_cases hrg : (overP r && overP g) = true
  case neg =>
    rw [if_neg hrg] at h
    simp only [Option.some.injEq] at h
    subst h
    have e1 : F317 [.flt r, .flt g] = some [.flt 0, .bool false] := by unfold F317; simp only; rw [if_neg hrg]
    repeat' first
      | with_reducible refine st_ift ?_
      | with_reducible refine st_iff ?_
      | ((with_reducible apply st_call); exact g317; exact rfl; exact e1; exact rfl)
      | ((with_reducible apply st_callt); assumption; exact rfl; exact rfl; assumption)
      | ((with_reducible apply st_callf); assumption; exact rfl; exact rfl; assumption)
      | ((with_reducible apply st_call); assumption; exact rfl; exact rfl; exact rfl)
      | ((with_reducible apply st_wide); exact rfl; exact rfl)
      | ((with_reducible apply st_skip); exact rfl)
      | ((with_reducible apply st_t); exact rfl; exact rfl)
      | ((with_reducible apply st_f); exact rfl; exact rfl)
      | ((with_reducible apply st_t); exact rfl; assumption)
      | ((with_reducible apply st_f); exact rfl; assumption)
      | ((with_reducible apply st_some); exact rfl)
      | exact rfl
  rw [if_pos hrg] at h
  have hrg2 := hrg
  simp only [Bool.and_eq_true] at hrg2
  obtain ⟨hr, hg⟩ := hrg2
  obtain ⟨q, hq, rfl⟩ := map_some_eq h
  obtain ⟨o, ho, hq⟩ := Option.bind_eq_some_iff.1 hq
  obtain ⟨o', ho', hl⟩ := neck_R hr hg
  rw [ho] at ho'
  cases ho'
  cases o with
  | none =>
    simp only [holdO, Option.some.injEq] at hq
    subst hq
    have e1 : F317 [.flt r, .flt g] = some [.flt 0, .bool false] := by unfold F317; simp only; rw [if_pos hrg, ho]; rfl
    repeat' first
      | with_reducible refine st_ift ?_
      | with_reducible refine st_iff ?_
      | ((with_reducible apply st_call); exact g317; exact rfl; exact e1; exact rfl)
      | ((with_reducible apply st_callt); assumption; exact rfl; exact rfl; assumption)
      | ((with_reducible apply st_callf); assumption; exact rfl; exact rfl; assumption)
      | ((with_reducible apply st_call); assumption; exact rfl; exact rfl; exact rfl)
      | ((with_reducible apply st_wide); exact rfl; exact rfl)
      | ((with_reducible apply st_skip); exact rfl)
      | ((with_reducible apply st_t); exact rfl; exact rfl)
      | ((with_reducible apply st_f); exact rfl; exact rfl)
      | ((with_reducible apply st_t); exact rfl; assumption)
      | ((with_reducible apply st_f); exact rfl; assumption)
      | ((with_reducible apply st_some); exact rfl)
      | exact rfl
  | some l =>
    obtain ⟨hol, _⟩ := hl l rfl
    have e1 : F317 [.flt r, .flt g] = some [.flt l, .bool true] := by unfold F317; simp only; rw [if_pos hrg, ho]; rfl
    unfold holdO at hq
    obtain ⟨a, ha, rfl⟩ := map_some_eq hq
    have e4 : F319 [.flt l, .flt g] = some [.flt a, .bool true] := by unfold F319; simp only; rw [if_pos (by rw [hol, hg]; rfl), ha]; rfl
    have e5 : F7 [.flt r] = some [.flt (fmul .f32 (fmul .f32 1086918619 r) r), .bool true] := by unfold F7; simp only; rw [if_pos hr]
    repeat' first
      | with_reducible refine st_ift ?_
      | with_reducible refine st_iff ?_
      | ((with_reducible apply st_call); exact g317; exact rfl; exact e1; exact rfl)
      | ((with_reducible apply st_call); exact g319; exact rfl; exact e4; exact rfl)
      | ((with_reducible apply st_call); exact g7; exact rfl; exact e5; exact rfl)
      | ((with_reducible apply st_callt); assumption; exact rfl; exact rfl; assumption)
      | ((with_reducible apply st_callf); assumption; exact rfl; exact rfl; assumption)
      | ((with_reducible apply st_call); assumption; exact rfl; exact rfl; exact rfl)
      | ((with_reducible apply st_wide); exact rfl; exact rfl)
      | ((with_reducible apply st_skip); exact rfl)
      | ((with_reducible apply st_t); exact rfl; exact rfl)
      | ((with_reducible apply st_f); exact rfl; exact rfl)
      | ((with_reducible apply st_t); exact rfl; assumption)
      | ((with_reducible apply st_f); exact rfl; assumption)
      | ((with_reducible apply st_some); exact rfl)
      | exact rfl

end Vs
