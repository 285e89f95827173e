/-
  Texts of functions, printed by wip/tools/gen.py: points where paths meet.
-/
import Derived.Test.YtfpmhmngebnphaaNs22
namespace Vs
open Go

def T32 : T :=
(.call none 18 [(.v 0), (.v 1), (.v 2)] 1 <|
(.op none .bnot [(.v 10)] <|
(.call (some ((.v 11), false)) 18 [(.v 3), (.v 4), (.v 5)] 1 <|
(.op (some ((.v 11), false)) .bnot [(.v 12)] <|
(.op none .pick [(.v 11), (.c (.bool true)), (.v 13)] <|
(.call (some ((.v 14), false)) 18 [(.v 6), (.v 7), (.v 8)] 1 <|
(.op (some ((.v 14), false)) .bnot [(.v 15)] <|
(.op none .pick [(.v 14), (.c (.bool true)), (.v 16)] <|
(.op (some ((.v 17), false)) .id [(.v 9)] <|
(.call (some ((.v 17), false)) 19 [(.v 18), (.c (.int 0)), (.c (.int 100))] 1 <|
(.op (some ((.v 17), false)) .bnot [(.v 19)] <|
(.op none .pick [(.v 17), (.c (.bool true)), (.v 20)] <|
(.ite (.v 21)
  (.out 0 [(.c (.flt 0)), (.c (.flt 0)), (.c (.flt 0)), (.c (.bool false))])
  (.call none 30 [(.v 0), (.v 1), (.v 2), (.v 3), (.v 4), (.v 5)] 3 <|
  (.call none 30 [(.v 22), (.v 23), (.v 24), (.v 6), (.v 7), (.v 8)] 3 <|
  (.call none 31 [(.v 25), (.v 26), (.v 27), (.c (.flt 1051372203))] 3 <|
  (.join 5
    (.loop [(.v 28), (.v 29), (.v 30), (.c (.int 0))]
      (.op none (.icm .lss) [(.v 34), (.v 9)] <|
      (.ite (.v 35)
        (.call none 13 [(.v 31), (.v 32), (.v 33), (.v 0), (.v 1), (.v 2)] 3 <|
        (.call none 15 [(.v 36), (.v 37), (.v 38)] 1 <|
        (.op none (.far .quo .f32) [(.c (.flt 1065353216)), (.v 39)] <|
        (.call none 13 [(.v 31), (.v 32), (.v 33), (.v 3), (.v 4), (.v 5)] 3 <|
        (.call none 15 [(.v 41), (.v 42), (.v 43)] 1 <|
        (.op none (.far .quo .f32) [(.c (.flt 1065353216)), (.v 44)] <|
        (.call none 13 [(.v 31), (.v 32), (.v 33), (.v 6), (.v 7), (.v 8)] 3 <|
        (.call none 15 [(.v 46), (.v 47), (.v 48)] 1 <|
        (.op none (.far .quo .f32) [(.c (.flt 1065353216)), (.v 49)] <|
        (.call none 1 [(.v 40)] 1 <|
        (.op none .bnot [(.v 51)] <|
        (.op (some ((.v 52), false)) .id [(.v 45)] <|
        (.call (some ((.v 52), false)) 1 [(.v 53)] 1 <|
        (.op (some ((.v 52), false)) .bnot [(.v 54)] <|
        (.op none .pick [(.v 52), (.c (.bool true)), (.v 55)] <|
        (.op (some ((.v 56), false)) .id [(.v 50)] <|
        (.call (some ((.v 56), false)) 1 [(.v 57)] 1 <|
        (.op (some ((.v 56), false)) .bnot [(.v 58)] <|
        (.op none .pick [(.v 56), (.c (.bool true)), (.v 59)] <|
        (.ite (.v 60)
          (.out 1 [(.v 31), (.v 32), (.v 33), (.v 34), (.v 35)])
          (.call none 31 [(.v 0), (.v 1), (.v 2), (.v 40)] 3 <|
          (.call none 31 [(.v 3), (.v 4), (.v 5), (.v 45)] 3 <|
          (.call none 30 [(.v 61), (.v 62), (.v 63), (.v 64), (.v 65), (.v 66)] 3 <|
          (.call none 31 [(.v 6), (.v 7), (.v 8), (.v 50)] 3 <|
          (.call none 30 [(.v 67), (.v 68), (.v 69), (.v 70), (.v 71), (.v 72)] 3 <|
          (.op none (.far .add .f32) [(.v 40), (.v 45)] <|
          (.op none (.far .add .f32) [(.v 76), (.v 50)] <|
          (.op none (.far .quo .f32) [(.c (.flt 1065353216)), (.v 77)] <|
          (.call none 31 [(.v 73), (.v 74), (.v 75), (.v 78)] 3 <|
          (.op none (.iar .add .i64) [(.v 34), (.c (.int 1))] <|
          (.out 0 [(.v 79), (.v 80), (.v 81), (.v 82)])))))))))))))))))))))))))))))))
        (.out 1 [(.v 31), (.v 32), (.v 33), (.v 34), (.v 35)]))))
  (.out 0 [(.v 31), (.v 32), (.v 33), (.c (.bool true))]))))))))))))))))))
def S32L0 (G : Told) (x0 : D) (x1 : D) (x2 : D) (x3 : D) (x4 : D) (x5 : D) (x6 : D) (x7 : D) (x8 : D) (x9 : D) : List D → Option (Nat × List D) := fun e31 =>
        (gev none (.icm .lss) [(e31.getD 3 .undef), x9]).bind fun x35 =>
        tif x35 (
          (gcall G none 13 [(e31.getD 0 .undef), (e31.getD 1 .undef), (e31.getD 2 .undef), x0, x1, x2] 3).bind fun e36 =>
          (gcall G none 15 [(e36.getD 0 .undef), (e36.getD 1 .undef), (e36.getD 2 .undef)] 1).bind fun e39 =>
          (gev none (.far .quo .f32) [(.flt 1065353216), (e39.getD 0 .undef)]).bind fun x40 =>
          (gcall G none 13 [(e31.getD 0 .undef), (e31.getD 1 .undef), (e31.getD 2 .undef), x3, x4, x5] 3).bind fun e41 =>
          (gcall G none 15 [(e41.getD 0 .undef), (e41.getD 1 .undef), (e41.getD 2 .undef)] 1).bind fun e44 =>
          (gev none (.far .quo .f32) [(.flt 1065353216), (e44.getD 0 .undef)]).bind fun x45 =>
          (gcall G none 13 [(e31.getD 0 .undef), (e31.getD 1 .undef), (e31.getD 2 .undef), x6, x7, x8] 3).bind fun e46 =>
          (gcall G none 15 [(e46.getD 0 .undef), (e46.getD 1 .undef), (e46.getD 2 .undef)] 1).bind fun e49 =>
          (gev none (.far .quo .f32) [(.flt 1065353216), (e49.getD 0 .undef)]).bind fun x50 =>
          (gcall G none 1 [x40] 1).bind fun e51 =>
          (gev none .bnot [(e51.getD 0 .undef)]).bind fun x52 =>
          (gev (some (x52, false)) .id [x45]).bind fun x53 =>
          (gcall G (some (x52, false)) 1 [x53] 1).bind fun e54 =>
          (gev (some (x52, false)) .bnot [(e54.getD 0 .undef)]).bind fun x55 =>
          (gev none .pick [x52, (.bool true), x55]).bind fun x56 =>
          (gev (some (x56, false)) .id [x50]).bind fun x57 =>
          (gcall G (some (x56, false)) 1 [x57] 1).bind fun e58 =>
          (gev (some (x56, false)) .bnot [(e58.getD 0 .undef)]).bind fun x59 =>
          (gev none .pick [x56, (.bool true), x59]).bind fun x60 =>
          tif x60 (
            some (1, [(e31.getD 0 .undef), (e31.getD 1 .undef), (e31.getD 2 .undef), (e31.getD 3 .undef), x35])) (
            (gcall G none 31 [x0, x1, x2, x40] 3).bind fun e61 =>
            (gcall G none 31 [x3, x4, x5, x45] 3).bind fun e64 =>
            (gcall G none 30 [(e61.getD 0 .undef), (e61.getD 1 .undef), (e61.getD 2 .undef), (e64.getD 0 .undef), (e64.getD 1 .undef), (e64.getD 2 .undef)] 3).bind fun e67 =>
            (gcall G none 31 [x6, x7, x8, x50] 3).bind fun e70 =>
            (gcall G none 30 [(e67.getD 0 .undef), (e67.getD 1 .undef), (e67.getD 2 .undef), (e70.getD 0 .undef), (e70.getD 1 .undef), (e70.getD 2 .undef)] 3).bind fun e73 =>
            (gev none (.far .add .f32) [x40, x45]).bind fun x76 =>
            (gev none (.far .add .f32) [x76, x50]).bind fun x77 =>
            (gev none (.far .quo .f32) [(.flt 1065353216), x77]).bind fun x78 =>
            (gcall G none 31 [(e73.getD 0 .undef), (e73.getD 1 .undef), (e73.getD 2 .undef), x78] 3).bind fun e79 =>
            (gev none (.iar .add .i64) [(e31.getD 3 .undef), (.int 1)]).bind fun x82 =>
            some (0, [(e79.getD 0 .undef), (e79.getD 1 .undef), (e79.getD 2 .undef), x82]))) (
          some (1, [(e31.getD 0 .undef), (e31.getD 1 .undef), (e31.getD 2 .undef), (e31.getD 3 .undef), x35]))
def S32 (G : Told) (fuel : Nat) (x0 x1 x2 x3 x4 x5 x6 x7 x8 x9 : D) : Option (Nat × List D) :=
  (gcall G none 18 [x0, x1, x2] 1).bind fun e10 =>
  (gev none .bnot [(e10.getD 0 .undef)]).bind fun x11 =>
  (gcall G (some (x11, false)) 18 [x3, x4, x5] 1).bind fun e12 =>
  (gev (some (x11, false)) .bnot [(e12.getD 0 .undef)]).bind fun x13 =>
  (gev none .pick [x11, (.bool true), x13]).bind fun x14 =>
  (gcall G (some (x14, false)) 18 [x6, x7, x8] 1).bind fun e15 =>
  (gev (some (x14, false)) .bnot [(e15.getD 0 .undef)]).bind fun x16 =>
  (gev none .pick [x14, (.bool true), x16]).bind fun x17 =>
  (gev (some (x17, false)) .id [x9]).bind fun x18 =>
  (gcall G (some (x17, false)) 19 [x18, (.int 0), (.int 100)] 1).bind fun e19 =>
  (gev (some (x17, false)) .bnot [(e19.getD 0 .undef)]).bind fun x20 =>
  (gev none .pick [x17, (.bool true), x20]).bind fun x21 =>
  tif x21 (
    some (0, [(.flt 0), (.flt 0), (.flt 0), (.bool false)])) (
    (gcall G none 30 [x0, x1, x2, x3, x4, x5] 3).bind fun e22 =>
    (gcall G none 30 [(e22.getD 0 .undef), (e22.getD 1 .undef), (e22.getD 2 .undef), x6, x7, x8] 3).bind fun e25 =>
    (gcall G none 31 [(e25.getD 0 .undef), (e25.getD 1 .undef), (e25.getD 2 .undef), (.flt 1051372203)] 3).bind fun e28 =>
    tjoin 5 (
      iter (tbody 4 (S32L0 G x0 x1 x2 x3 x4 x5 x6 x7 x8 x9)) fuel [(e28.getD 0 .undef), (e28.getD 1 .undef), (e28.getD 2 .undef), (.int 0)]) fun e31 =>
    some (0, [(e31.getD 0 .undef), (e31.getD 1 .undef), (e31.getD 2 .undef), (.bool true)]))
theorem eq32 {G : Told} {fuel : Nat} (x0 x1 x2 x3 x4 x5 x6 x7 x8 x9 : D) : run G fuel T32 [x0, x1, x2, x3, x4, x5, x6, x7, x8, x9] = S32 G fuel x0 x1 x2 x3 x4 x5 x6 x7 x8 x9 := by
  rw [run_eq]; kernel_rfl

def T32s : T :=
(.call none 18 [(.v 0), (.v 1), (.v 2)] 1 <|
(.op none .bnot [(.v 10)] <|
(.call (some ((.v 11), false)) 18 [(.v 3), (.v 4), (.v 5)] 1 <|
(.op (some ((.v 11), false)) .bnot [(.v 12)] <|
(.op none .pick [(.v 11), (.c (.bool true)), (.v 13)] <|
(.call (some ((.v 14), false)) 18 [(.v 6), (.v 7), (.v 8)] 1 <|
(.op (some ((.v 14), false)) .bnot [(.v 15)] <|
(.op none .pick [(.v 14), (.c (.bool true)), (.v 16)] <|
(.op (some ((.v 17), false)) .id [(.v 9)] <|
(.call (some ((.v 17), false)) 19 [(.v 18), (.c (.int 0)), (.c (.int 100))] 1 <|
(.op (some ((.v 17), false)) .bnot [(.v 19)] <|
(.op none .pick [(.v 17), (.c (.bool true)), (.v 20)] <|
(.ite (.v 21)
  (.out 0 [(.c (.flt 0)), (.c (.flt 0)), (.c (.flt 0)), (.c (.bool false))])
  (.call none 30 [(.v 0), (.v 1), (.v 2), (.v 3), (.v 4), (.v 5)] 3 <|
  (.call none 30 [(.v 22), (.v 23), (.v 24), (.v 6), (.v 7), (.v 8)] 3 <|
  (.call none 31 [(.v 25), (.v 26), (.v 27), (.c (.flt 1051372203))] 3 <|
  (.join 7
    (.loop [(.v 28), (.v 29), (.v 30), (.c (.int 0))]
      (.op none (.icm .lss) [(.v 34), (.v 9)] <|
      (.ite (.v 35)
        (.call none 13 [(.v 31), (.v 32), (.v 33), (.v 0), (.v 1), (.v 2)] 3 <|
        (.call none 15 [(.v 36), (.v 37), (.v 38)] 1 <|
        (.op none (.far .quo .f32) [(.c (.flt 1065353216)), (.v 39)] <|
        (.call none 13 [(.v 31), (.v 32), (.v 33), (.v 3), (.v 4), (.v 5)] 3 <|
        (.call none 15 [(.v 41), (.v 42), (.v 43)] 1 <|
        (.op none (.far .quo .f32) [(.c (.flt 1065353216)), (.v 44)] <|
        (.call none 13 [(.v 31), (.v 32), (.v 33), (.v 6), (.v 7), (.v 8)] 3 <|
        (.call none 15 [(.v 46), (.v 47), (.v 48)] 1 <|
        (.op none (.far .quo .f32) [(.c (.flt 1065353216)), (.v 49)] <|
        (.call none 1 [(.v 40)] 1 <|
        (.op none .bnot [(.v 51)] <|
        (.op (some ((.v 52), false)) .id [(.v 45)] <|
        (.call (some ((.v 52), false)) 1 [(.v 53)] 1 <|
        (.op (some ((.v 52), false)) .bnot [(.v 54)] <|
        (.op none .pick [(.v 52), (.c (.bool true)), (.v 55)] <|
        (.op (some ((.v 56), false)) .id [(.v 50)] <|
        (.call (some ((.v 56), false)) 1 [(.v 57)] 1 <|
        (.op (some ((.v 56), false)) .bnot [(.v 58)] <|
        (.op none .pick [(.v 56), (.c (.bool true)), (.v 59)] <|
        (.ite (.v 60)
          (.out 1 [(.v 31), (.v 32), (.v 33), (.v 34), (.v 34), (.v 9), (.v 35)])
          (.call none 31 [(.v 0), (.v 1), (.v 2), (.v 40)] 3 <|
          (.call none 31 [(.v 3), (.v 4), (.v 5), (.v 45)] 3 <|
          (.call none 30 [(.v 61), (.v 62), (.v 63), (.v 64), (.v 65), (.v 66)] 3 <|
          (.call none 31 [(.v 6), (.v 7), (.v 8), (.v 50)] 3 <|
          (.call none 30 [(.v 67), (.v 68), (.v 69), (.v 70), (.v 71), (.v 72)] 3 <|
          (.op none (.far .add .f32) [(.v 40), (.v 45)] <|
          (.op none (.far .add .f32) [(.v 76), (.v 50)] <|
          (.op none (.far .quo .f32) [(.c (.flt 1065353216)), (.v 77)] <|
          (.call none 31 [(.v 73), (.v 74), (.v 75), (.v 78)] 3 <|
          (.op none (.iar .add .i64) [(.v 34), (.c (.int 1))] <|
          (.out 0 [(.v 79), (.v 80), (.v 81), (.v 82)])))))))))))))))))))))))))))))))
        (.out 1 [(.v 31), (.v 32), (.v 33), (.v 34), (.v 34), (.v 9), (.v 35)]))))
  (.out 0 [(.v 31), (.v 32), (.v 33), (.c (.bool true))]))))))))))))))))))
def S32sL0 (G : Told) (x0 : D) (x1 : D) (x2 : D) (x3 : D) (x4 : D) (x5 : D) (x6 : D) (x7 : D) (x8 : D) (x9 : D) : List D → Option (Nat × List D) := fun e31 =>
        (gev none (.icm .lss) [(e31.getD 3 .undef), x9]).bind fun x35 =>
        tif x35 (
          (gcall G none 13 [(e31.getD 0 .undef), (e31.getD 1 .undef), (e31.getD 2 .undef), x0, x1, x2] 3).bind fun e36 =>
          (gcall G none 15 [(e36.getD 0 .undef), (e36.getD 1 .undef), (e36.getD 2 .undef)] 1).bind fun e39 =>
          (gev none (.far .quo .f32) [(.flt 1065353216), (e39.getD 0 .undef)]).bind fun x40 =>
          (gcall G none 13 [(e31.getD 0 .undef), (e31.getD 1 .undef), (e31.getD 2 .undef), x3, x4, x5] 3).bind fun e41 =>
          (gcall G none 15 [(e41.getD 0 .undef), (e41.getD 1 .undef), (e41.getD 2 .undef)] 1).bind fun e44 =>
          (gev none (.far .quo .f32) [(.flt 1065353216), (e44.getD 0 .undef)]).bind fun x45 =>
          (gcall G none 13 [(e31.getD 0 .undef), (e31.getD 1 .undef), (e31.getD 2 .undef), x6, x7, x8] 3).bind fun e46 =>
          (gcall G none 15 [(e46.getD 0 .undef), (e46.getD 1 .undef), (e46.getD 2 .undef)] 1).bind fun e49 =>
          (gev none (.far .quo .f32) [(.flt 1065353216), (e49.getD 0 .undef)]).bind fun x50 =>
          (gcall G none 1 [x40] 1).bind fun e51 =>
          (gev none .bnot [(e51.getD 0 .undef)]).bind fun x52 =>
          (gev (some (x52, false)) .id [x45]).bind fun x53 =>
          (gcall G (some (x52, false)) 1 [x53] 1).bind fun e54 =>
          (gev (some (x52, false)) .bnot [(e54.getD 0 .undef)]).bind fun x55 =>
          (gev none .pick [x52, (.bool true), x55]).bind fun x56 =>
          (gev (some (x56, false)) .id [x50]).bind fun x57 =>
          (gcall G (some (x56, false)) 1 [x57] 1).bind fun e58 =>
          (gev (some (x56, false)) .bnot [(e58.getD 0 .undef)]).bind fun x59 =>
          (gev none .pick [x56, (.bool true), x59]).bind fun x60 =>
          tif x60 (
            some (1, [(e31.getD 0 .undef), (e31.getD 1 .undef), (e31.getD 2 .undef), (e31.getD 3 .undef), (e31.getD 3 .undef), x9, x35])) (
            (gcall G none 31 [x0, x1, x2, x40] 3).bind fun e61 =>
            (gcall G none 31 [x3, x4, x5, x45] 3).bind fun e64 =>
            (gcall G none 30 [(e61.getD 0 .undef), (e61.getD 1 .undef), (e61.getD 2 .undef), (e64.getD 0 .undef), (e64.getD 1 .undef), (e64.getD 2 .undef)] 3).bind fun e67 =>
            (gcall G none 31 [x6, x7, x8, x50] 3).bind fun e70 =>
            (gcall G none 30 [(e67.getD 0 .undef), (e67.getD 1 .undef), (e67.getD 2 .undef), (e70.getD 0 .undef), (e70.getD 1 .undef), (e70.getD 2 .undef)] 3).bind fun e73 =>
            (gev none (.far .add .f32) [x40, x45]).bind fun x76 =>
            (gev none (.far .add .f32) [x76, x50]).bind fun x77 =>
            (gev none (.far .quo .f32) [(.flt 1065353216), x77]).bind fun x78 =>
            (gcall G none 31 [(e73.getD 0 .undef), (e73.getD 1 .undef), (e73.getD 2 .undef), x78] 3).bind fun e79 =>
            (gev none (.iar .add .i64) [(e31.getD 3 .undef), (.int 1)]).bind fun x82 =>
            some (0, [(e79.getD 0 .undef), (e79.getD 1 .undef), (e79.getD 2 .undef), x82]))) (
          some (1, [(e31.getD 0 .undef), (e31.getD 1 .undef), (e31.getD 2 .undef), (e31.getD 3 .undef), (e31.getD 3 .undef), x9, x35]))
def S32s (G : Told) (fuel : Nat) (x0 x1 x2 x3 x4 x5 x6 x7 x8 x9 : D) : Option (Nat × List D) :=
  (gcall G none 18 [x0, x1, x2] 1).bind fun e10 =>
  (gev none .bnot [(e10.getD 0 .undef)]).bind fun x11 =>
  (gcall G (some (x11, false)) 18 [x3, x4, x5] 1).bind fun e12 =>
  (gev (some (x11, false)) .bnot [(e12.getD 0 .undef)]).bind fun x13 =>
  (gev none .pick [x11, (.bool true), x13]).bind fun x14 =>
  (gcall G (some (x14, false)) 18 [x6, x7, x8] 1).bind fun e15 =>
  (gev (some (x14, false)) .bnot [(e15.getD 0 .undef)]).bind fun x16 =>
  (gev none .pick [x14, (.bool true), x16]).bind fun x17 =>
  (gev (some (x17, false)) .id [x9]).bind fun x18 =>
  (gcall G (some (x17, false)) 19 [x18, (.int 0), (.int 100)] 1).bind fun e19 =>
  (gev (some (x17, false)) .bnot [(e19.getD 0 .undef)]).bind fun x20 =>
  (gev none .pick [x17, (.bool true), x20]).bind fun x21 =>
  tif x21 (
    some (0, [(.flt 0), (.flt 0), (.flt 0), (.bool false)])) (
    (gcall G none 30 [x0, x1, x2, x3, x4, x5] 3).bind fun e22 =>
    (gcall G none 30 [(e22.getD 0 .undef), (e22.getD 1 .undef), (e22.getD 2 .undef), x6, x7, x8] 3).bind fun e25 =>
    (gcall G none 31 [(e25.getD 0 .undef), (e25.getD 1 .undef), (e25.getD 2 .undef), (.flt 1051372203)] 3).bind fun e28 =>
    tjoin 7 (
      iter (tbody 4 (S32sL0 G x0 x1 x2 x3 x4 x5 x6 x7 x8 x9)) fuel [(e28.getD 0 .undef), (e28.getD 1 .undef), (e28.getD 2 .undef), (.int 0)]) fun e31 =>
    some (0, [(e31.getD 0 .undef), (e31.getD 1 .undef), (e31.getD 2 .undef), (.bool true)]))
theorem eq32s {G : Told} {fuel : Nat} (x0 x1 x2 x3 x4 x5 x6 x7 x8 x9 : D) : run G fuel T32s [x0, x1, x2, x3, x4, x5, x6, x7, x8, x9] = S32s G fuel x0 x1 x2 x3 x4 x5 x6 x7 x8 x9 := by
  rw [run_eq]; kernel_rfl

end Vs
