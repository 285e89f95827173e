/-
  Necks: the law's run.
-/
import Derived.Test.YthgocnlbnghbbaaK23
namespace Vs
open Go

open Classical in
noncomputable def F485 : List D → Option (List D)
  | [a, b] => (dI a).bind fun l => (dI b).bind fun _ => if ∀ x ∈ l, 0 ≤ x ∧ x ≤ 255 then some [.bool true] else none
  | _ => none

def T485 : T :=
(.call none 220 [(.v 0), (.v 1)] 1 <|
(.ite (.v 2)
  (.out 0 [(.c (.bool true))])
  (.call none 221 [(.v 0), (.c (.int 0)), (.c (.int 16))] 1 <|
  (.op none (.iar .add .i64) [(.c (.int 1)), (.v 3)] <|
  (.op none (.i2f .f32) [(.v 4)] <|
  (.op none (.far .quo .f32) [(.v 5), (.c (.flt 1082130432))] <|
  (.call none 221 [(.v 0), (.c (.int 1)), (.c (.int 32))] 1 <|
  (.op none (.iar .add .i64) [(.c (.int 1)), (.v 7)] <|
  (.op none (.i2f .f32) [(.v 8)] <|
  (.op none (.far .quo .f32) [(.v 9), (.c (.flt 1098907648))] <|
  (.call none 317 [(.v 6), (.v 10)] 2 <|
  (.call none 3 [(.v 6)] 2 <|
  (.op none .bnot [(.v 14)] <|
  (.op (some ((.v 15), false)) .id [(.v 10)] <|
  (.op (some ((.v 15), false)) (.f2f .f32 .f64) [(.v 16)] <|
  (.op (some ((.v 15), false)) .id [(.v 13)] <|
  (.op (some ((.v 15), false)) (.f2f .f32 .f64) [(.v 18)] <|
  (.op (some ((.v 15), false)) (.far .mul .f64) [(.c (.flt 4607173411600762667)), (.v 19)] <|
  (.op (some ((.v 15), false)) (.fcm .lss .f64) [(.v 17), (.v 20)] <|
  (.op (some ((.v 15), false)) .id [(.v 21)] <|
  (.op (some ((.v 22), true)) .id [(.v 12)] <|
  (.op (some ((.v 22), true)) .bnot [(.v 23)] <|
  (.op (some ((.v 15), false)) .pick [(.v 22), (.v 24), (.c (.bool false))] <|
  (.op none .pick [(.v 15), (.c (.bool true)), (.v 25)] <|
  (.op (some ((.v 26), false)) .id [(.v 10)] <|
  (.op (some ((.v 26), false)) (.f2f .f32 .f64) [(.v 27)] <|
  (.op (some ((.v 26), false)) .id [(.v 13)] <|
  (.op (some ((.v 26), false)) (.f2f .f32 .f64) [(.v 29)] <|
  (.op (some ((.v 26), false)) (.far .mul .f64) [(.c (.flt 4607186922399644778)), (.v 30)] <|
  (.op (some ((.v 26), false)) (.fcm .gtr .f64) [(.v 28), (.v 31)] <|
  (.op (some ((.v 26), false)) .id [(.v 32)] <|
  (.op (some ((.v 33), true)) .id [(.v 12)] <|
  (.op (some ((.v 26), false)) .pick [(.v 33), (.v 34), (.c (.bool false))] <|
  (.op none .pick [(.v 26), (.c (.bool true)), (.v 35)] <|
  (.ite (.v 36)
    (.out 0 [(.c (.bool false))])
    (.op none .bnot [(.v 12)] <|
    (.ite (.v 37)
      (.call none 321 [(.v 6), (.v 10)] 1 <|
      (.op none .bnot [(.v 38)] <|
      (.out 0 [(.v 39)])))
      (.op none (.far .mul .f32) [(.v 10), (.c (.flt 1056964608))] <|
      (.call none 315 [(.v 11), (.v 38)] 2 <|
      (.call none 319 [(.v 11), (.v 10)] 2 <|
      (.call none 7 [(.v 6)] 2 <|
      (.op none (.f2f .f32 .f64) [(.v 6)] <|
      (.op none (.far .mul .f64) [(.c (.flt 4618760256283922839)), (.v 45)] <|
      (.op none (.f2f .f32 .f64) [(.v 10)] <|
      (.op none (.far .mul .f64) [(.v 46), (.v 47)] <|
      (.op none .bnot [(.v 40)] <|
      (.op (some ((.v 49), false)) .id [(.v 42)] <|
      (.op (some ((.v 49), false)) .bnot [(.v 50)] <|
      (.op none .pick [(.v 49), (.c (.bool true)), (.v 51)] <|
      (.op (some ((.v 52), false)) .id [(.v 44)] <|
      (.op (some ((.v 52), false)) .bnot [(.v 53)] <|
      (.op none .pick [(.v 52), (.c (.bool true)), (.v 54)] <|
      (.op (some ((.v 55), false)) .id [(.v 11)] <|
      (.op (some ((.v 55), false)) .id [(.v 6)] <|
      (.op (some ((.v 55), false)) (.fcm .gtr .f32) [(.v 56), (.v 57)] <|
      (.op none .pick [(.v 55), (.c (.bool true)), (.v 58)] <|
      (.op (some ((.v 59), false)) .id [(.v 11)] <|
      (.op (some ((.v 59), false)) (.fcm .gtr .f32) [(.v 60), (.c (.flt 0))] <|
      (.op (some ((.v 59), false)) .bnot [(.v 61)] <|
      (.op none .pick [(.v 59), (.c (.bool true)), (.v 62)] <|
      (.op (some ((.v 63), false)) .id [(.v 39)] <|
      (.op (some ((.v 63), false)) (.f2f .f32 .f64) [(.v 64)] <|
      (.op (some ((.v 63), false)) .id [(.v 6)] <|
      (.op (some ((.v 63), false)) (.f2f .f32 .f64) [(.v 66)] <|
      (.call (some ((.v 63), false)) 231 [(.v 65), (.v 67)] 1 <|
      (.op (some ((.v 63), false)) .id [(.v 6)] <|
      (.op (some ((.v 63), false)) (.f2f .f32 .f64) [(.v 69)] <|
      (.op (some ((.v 63), false)) (.far .mul .f64) [(.c (.flt 4562254508917369340)), (.v 70)] <|
      (.op (some ((.v 63), false)) (.fcm .gtr .f64) [(.v 68), (.v 71)] <|
      (.op none .pick [(.v 63), (.c (.bool true)), (.v 72)] <|
      (.op (some ((.v 73), false)) .id [(.v 41)] <|
      (.op (some ((.v 73), false)) (.f2f .f32 .f64) [(.v 74)] <|
      (.op (some ((.v 73), false)) .id [(.v 48)] <|
      (.op (some ((.v 73), false)) (.far .mul .f64) [(.c (.flt 4607186922399644778)), (.v 76)] <|
      (.op (some ((.v 73), false)) (.fcm .gtr .f64) [(.v 75), (.v 77)] <|
      (.op none .pick [(.v 73), (.c (.bool true)), (.v 78)] <|
      (.op (some ((.v 79), false)) .id [(.v 6)] <|
      (.op (some ((.v 79), false)) .id [(.v 10)] <|
      (.call (some ((.v 79), false)) 321 [(.v 80), (.v 81)] 1 <|
      (.op (some ((.v 79), false)) .id [(.v 41)] <|
      (.op (some ((.v 79), false)) .id [(.v 43)] <|
      (.op (some ((.v 79), false)) (.fcm .leq .f32) [(.v 83), (.v 84)] <|
      (.op (some ((.v 79), false)) .bne [(.v 82), (.v 85)] <|
      (.op none .pick [(.v 79), (.c (.bool true)), (.v 86)] <|
      (.ite (.v 87)
        (.out 0 [(.c (.bool false))])
        (.call none 472 [(.c (.int 8)), (.c (.int 4)), (.v 6), (.v 10)] 3 <|
        (.op none (.far .mul .f32) [(.v 10), (.c (.flt 1048576000))] <|
        (.call none 470 [(.c (.int 8)), (.c (.int 4)), (.v 6), (.v 91)] 3 <|
        (.op none .bnot [(.v 90)] <|
        (.op (some ((.v 95), false)) .id [(.v 94)] <|
        (.op (some ((.v 95), false)) .bnot [(.v 96)] <|
        (.op none .pick [(.v 95), (.c (.bool true)), (.v 97)] <|
        (.call (some ((.v 98), false)) 480 [(.v 88), (.v 89), (.v 92), (.v 93)] 1 <|
        (.op (some ((.v 98), false)) .bnot [(.v 99)] <|
        (.op none .pick [(.v 98), (.c (.bool true)), (.v 100)] <|
        (.ite (.v 101)
          (.out 0 [(.c (.bool false))])
          (.join 4
            (.loop [(.c (.int 0))]
              (.op none .len [(.v 88)] <|
              (.op none (.icm .lss) [(.v 102), (.v 103)] <|
              (.ite (.v 104)
                (.op none .idx [(.v 88), (.v 102)] <|
                (.op none .idx [(.v 88), (.v 102)] <|
                (.op none (.proj 0) [(.v 106)] <|
                (.op none (.proj 1) [(.v 106)] <|
                (.op none (.proj 2) [(.v 106)] <|
                (.op none .idx [(.v 88), (.v 102)] <|
                (.op none .idx [(.v 88), (.v 102)] <|
                (.op none (.proj 0) [(.v 111)] <|
                (.op none (.proj 1) [(.v 111)] <|
                (.op none (.proj 2) [(.v 111)] <|
                (.call none 15 [(.v 107), (.v 113), (.c (.flt 0))] 1 <|
                (.op none (.f2f .f32 .f64) [(.v 115)] <|
                (.op none (.f2f .f32 .f64) [(.v 6)] <|
                (.op none (.far .mul .f64) [(.c (.flt 4607186922399644778)), (.v 117)] <|
                (.op none (.fcm .gtr .f64) [(.v 116), (.v 118)] <|
                (.op (some ((.v 119), false)) .id [(.v 116)] <|
                (.op (some ((.v 119), false)) .id [(.v 11)] <|
                (.op (some ((.v 119), false)) (.f2f .f32 .f64) [(.v 121)] <|
                (.op (some ((.v 119), false)) (.far .mul .f64) [(.c (.flt 4607173411600762667)), (.v 122)] <|
                (.op (some ((.v 119), false)) (.fcm .lss .f64) [(.v 120), (.v 123)] <|
                (.op none .pick [(.v 119), (.c (.bool true)), (.v 124)] <|
                (.op (some ((.v 125), false)) .id [(.v 102)] <|
                (.op (some ((.v 125), false)) (.icm .lss) [(.v 126), (.c (.int 8))] <|
                (.op (some ((.v 125), false)) .id [(.v 127)] <|
                (.op (some ((.v 128), false)) .id [(.v 102)] <|
                (.op (some ((.v 128), false)) (.icm .geq) [(.v 129), (.c (.int 32))] <|
                (.op (some ((.v 125), false)) .pick [(.v 128), (.c (.bool true)), (.v 130)] <|
                (.op (some ((.v 125), false)) .id [(.v 131)] <|
                (.op (some ((.v 132), true)) .id [(.v 116)] <|
                (.op (some ((.v 132), true)) .id [(.v 6)] <|
                (.op (some ((.v 132), true)) (.f2f .f32 .f64) [(.v 134)] <|
                (.call (some ((.v 132), true)) 231 [(.v 133), (.v 135)] 1 <|
                (.op (some ((.v 132), true)) .id [(.v 6)] <|
                (.op (some ((.v 132), true)) (.f2f .f32 .f64) [(.v 137)] <|
                (.op (some ((.v 132), true)) (.far .mul .f64) [(.c (.flt 4562254508917369340)), (.v 138)] <|
                (.op (some ((.v 132), true)) (.fcm .gtr .f64) [(.v 136), (.v 139)] <|
                (.op (some ((.v 125), false)) .pick [(.v 132), (.v 140), (.c (.bool false))] <|
                (.op none .pick [(.v 125), (.c (.bool true)), (.v 141)] <|
                (.ite (.v 142)
                  (.out 2 [(.c (.bool false))])
                  (.op none (.iar .add .i64) [(.v 102), (.c (.int 1))] <|
                  (.out 0 [(.v 143)])))))))))))))))))))))))))))))))))))))))))
                (.out 1 [(.v 102), (.v 102), (.v 103), (.v 104)])))))
          (.out 0 [(.c (.bool true))]))))))))))))))))))))))))))))))))))))))))))))))))))))))))))))))))))))))))))))))))))))))))))))))))))
def S485L0 (G : Told) (x6 : D) (e11 : List D) (e88 : List D) : List D → Option (Nat × List D) := fun e102 =>
                (gev none .len [(e88.getD 0 .undef)]).bind fun x103 =>
                (gev none (.icm .lss) [(e102.getD 0 .undef), x103]).bind fun x104 =>
                tif x104 (
                  (gev none .idx [(e88.getD 0 .undef), (e102.getD 0 .undef)]).bind fun _x105 =>
                  (gev none .idx [(e88.getD 0 .undef), (e102.getD 0 .undef)]).bind fun x106 =>
                  (gev none (.proj 0) [x106]).bind fun x107 =>
                  (gev none (.proj 1) [x106]).bind fun _x108 =>
                  (gev none (.proj 2) [x106]).bind fun _x109 =>
                  (gev none .idx [(e88.getD 0 .undef), (e102.getD 0 .undef)]).bind fun _x110 =>
                  (gev none .idx [(e88.getD 0 .undef), (e102.getD 0 .undef)]).bind fun x111 =>
                  (gev none (.proj 0) [x111]).bind fun _x112 =>
                  (gev none (.proj 1) [x111]).bind fun x113 =>
                  (gev none (.proj 2) [x111]).bind fun _x114 =>
                  (gcall G none 15 [x107, x113, (.flt 0)] 1).bind fun e115 =>
                  (gev none (.f2f .f32 .f64) [(e115.getD 0 .undef)]).bind fun x116 =>
                  (gev none (.f2f .f32 .f64) [x6]).bind fun x117 =>
                  (gev none (.far .mul .f64) [(.flt 4607186922399644778), x117]).bind fun x118 =>
                  (gev none (.fcm .gtr .f64) [x116, x118]).bind fun x119 =>
                  (gev (some (x119, false)) .id [x116]).bind fun x120 =>
                  (gev (some (x119, false)) .id [(e11.getD 0 .undef)]).bind fun x121 =>
                  (gev (some (x119, false)) (.f2f .f32 .f64) [x121]).bind fun x122 =>
                  (gev (some (x119, false)) (.far .mul .f64) [(.flt 4607173411600762667), x122]).bind fun x123 =>
                  (gev (some (x119, false)) (.fcm .lss .f64) [x120, x123]).bind fun x124 =>
                  (gev none .pick [x119, (.bool true), x124]).bind fun x125 =>
                  (gev (some (x125, false)) .id [(e102.getD 0 .undef)]).bind fun x126 =>
                  (gev (some (x125, false)) (.icm .lss) [x126, (.int 8)]).bind fun x127 =>
                  (gev (some (x125, false)) .id [x127]).bind fun x128 =>
                  (gev (some (x128, false)) .id [(e102.getD 0 .undef)]).bind fun x129 =>
                  (gev (some (x128, false)) (.icm .geq) [x129, (.int 32)]).bind fun x130 =>
                  (gev (some (x125, false)) .pick [x128, (.bool true), x130]).bind fun x131 =>
                  (gev (some (x125, false)) .id [x131]).bind fun x132 =>
                  (gev (some (x132, true)) .id [x116]).bind fun x133 =>
                  (gev (some (x132, true)) .id [x6]).bind fun x134 =>
                  (gev (some (x132, true)) (.f2f .f32 .f64) [x134]).bind fun x135 =>
                  (gcall G (some (x132, true)) 231 [x133, x135] 1).bind fun e136 =>
                  (gev (some (x132, true)) .id [x6]).bind fun x137 =>
                  (gev (some (x132, true)) (.f2f .f32 .f64) [x137]).bind fun x138 =>
                  (gev (some (x132, true)) (.far .mul .f64) [(.flt 4562254508917369340), x138]).bind fun x139 =>
                  (gev (some (x132, true)) (.fcm .gtr .f64) [(e136.getD 0 .undef), x139]).bind fun x140 =>
                  (gev (some (x125, false)) .pick [x132, x140, (.bool false)]).bind fun x141 =>
                  (gev none .pick [x125, (.bool true), x141]).bind fun x142 =>
                  tif x142 (
                    some (2, [(.bool false)])) (
                    (gev none (.iar .add .i64) [(e102.getD 0 .undef), (.int 1)]).bind fun x143 =>
                    some (0, [x143]))) (
                  some (1, [(e102.getD 0 .undef), (e102.getD 0 .undef), x103, x104]))
def S485 (G : Told) (fuel : Nat) (x0 x1 : D) : Option (Nat × List D) :=
  (gcall G none 220 [x0, x1] 1).bind fun e2 =>
  tif (e2.getD 0 .undef) (
    some (0, [(.bool true)])) (
    (gcall G none 221 [x0, (.int 0), (.int 16)] 1).bind fun e3 =>
    (gev none (.iar .add .i64) [(.int 1), (e3.getD 0 .undef)]).bind fun x4 =>
    (gev none (.i2f .f32) [x4]).bind fun x5 =>
    (gev none (.far .quo .f32) [x5, (.flt 1082130432)]).bind fun x6 =>
    (gcall G none 221 [x0, (.int 1), (.int 32)] 1).bind fun e7 =>
    (gev none (.iar .add .i64) [(.int 1), (e7.getD 0 .undef)]).bind fun x8 =>
    (gev none (.i2f .f32) [x8]).bind fun x9 =>
    (gev none (.far .quo .f32) [x9, (.flt 1098907648)]).bind fun x10 =>
    (gcall G none 317 [x6, x10] 2).bind fun e11 =>
    (gcall G none 3 [x6] 2).bind fun e13 =>
    (gev none .bnot [(e13.getD 1 .undef)]).bind fun x15 =>
    (gev (some (x15, false)) .id [x10]).bind fun x16 =>
    (gev (some (x15, false)) (.f2f .f32 .f64) [x16]).bind fun x17 =>
    (gev (some (x15, false)) .id [(e13.getD 0 .undef)]).bind fun x18 =>
    (gev (some (x15, false)) (.f2f .f32 .f64) [x18]).bind fun x19 =>
    (gev (some (x15, false)) (.far .mul .f64) [(.flt 4607173411600762667), x19]).bind fun x20 =>
    (gev (some (x15, false)) (.fcm .lss .f64) [x17, x20]).bind fun x21 =>
    (gev (some (x15, false)) .id [x21]).bind fun x22 =>
    (gev (some (x22, true)) .id [(e11.getD 1 .undef)]).bind fun x23 =>
    (gev (some (x22, true)) .bnot [x23]).bind fun x24 =>
    (gev (some (x15, false)) .pick [x22, x24, (.bool false)]).bind fun x25 =>
    (gev none .pick [x15, (.bool true), x25]).bind fun x26 =>
    (gev (some (x26, false)) .id [x10]).bind fun x27 =>
    (gev (some (x26, false)) (.f2f .f32 .f64) [x27]).bind fun x28 =>
    (gev (some (x26, false)) .id [(e13.getD 0 .undef)]).bind fun x29 =>
    (gev (some (x26, false)) (.f2f .f32 .f64) [x29]).bind fun x30 =>
    (gev (some (x26, false)) (.far .mul .f64) [(.flt 4607186922399644778), x30]).bind fun x31 =>
    (gev (some (x26, false)) (.fcm .gtr .f64) [x28, x31]).bind fun x32 =>
    (gev (some (x26, false)) .id [x32]).bind fun x33 =>
    (gev (some (x33, true)) .id [(e11.getD 1 .undef)]).bind fun x34 =>
    (gev (some (x26, false)) .pick [x33, x34, (.bool false)]).bind fun x35 =>
    (gev none .pick [x26, (.bool true), x35]).bind fun x36 =>
    tif x36 (
      some (0, [(.bool false)])) (
      (gev none .bnot [(e11.getD 1 .undef)]).bind fun x37 =>
      tif x37 (
        (gcall G none 321 [x6, x10] 1).bind fun e38 =>
        (gev none .bnot [(e38.getD 0 .undef)]).bind fun x39 =>
        some (0, [x39])) (
        (gev none (.far .mul .f32) [x10, (.flt 1056964608)]).bind fun x38 =>
        (gcall G none 315 [(e11.getD 0 .undef), x38] 2).bind fun e39 =>
        (gcall G none 319 [(e11.getD 0 .undef), x10] 2).bind fun e41 =>
        (gcall G none 7 [x6] 2).bind fun e43 =>
        (gev none (.f2f .f32 .f64) [x6]).bind fun x45 =>
        (gev none (.far .mul .f64) [(.flt 4618760256283922839), x45]).bind fun x46 =>
        (gev none (.f2f .f32 .f64) [x10]).bind fun x47 =>
        (gev none (.far .mul .f64) [x46, x47]).bind fun x48 =>
        (gev none .bnot [(e39.getD 1 .undef)]).bind fun x49 =>
        (gev (some (x49, false)) .id [(e41.getD 1 .undef)]).bind fun x50 =>
        (gev (some (x49, false)) .bnot [x50]).bind fun x51 =>
        (gev none .pick [x49, (.bool true), x51]).bind fun x52 =>
        (gev (some (x52, false)) .id [(e43.getD 1 .undef)]).bind fun x53 =>
        (gev (some (x52, false)) .bnot [x53]).bind fun x54 =>
        (gev none .pick [x52, (.bool true), x54]).bind fun x55 =>
        (gev (some (x55, false)) .id [(e11.getD 0 .undef)]).bind fun x56 =>
        (gev (some (x55, false)) .id [x6]).bind fun x57 =>
        (gev (some (x55, false)) (.fcm .gtr .f32) [x56, x57]).bind fun x58 =>
        (gev none .pick [x55, (.bool true), x58]).bind fun x59 =>
        (gev (some (x59, false)) .id [(e11.getD 0 .undef)]).bind fun x60 =>
        (gev (some (x59, false)) (.fcm .gtr .f32) [x60, (.flt 0)]).bind fun x61 =>
        (gev (some (x59, false)) .bnot [x61]).bind fun x62 =>
        (gev none .pick [x59, (.bool true), x62]).bind fun x63 =>
        (gev (some (x63, false)) .id [(e39.getD 0 .undef)]).bind fun x64 =>
        (gev (some (x63, false)) (.f2f .f32 .f64) [x64]).bind fun x65 =>
        (gev (some (x63, false)) .id [x6]).bind fun x66 =>
        (gev (some (x63, false)) (.f2f .f32 .f64) [x66]).bind fun x67 =>
        (gcall G (some (x63, false)) 231 [x65, x67] 1).bind fun e68 =>
        (gev (some (x63, false)) .id [x6]).bind fun x69 =>
        (gev (some (x63, false)) (.f2f .f32 .f64) [x69]).bind fun x70 =>
        (gev (some (x63, false)) (.far .mul .f64) [(.flt 4562254508917369340), x70]).bind fun x71 =>
        (gev (some (x63, false)) (.fcm .gtr .f64) [(e68.getD 0 .undef), x71]).bind fun x72 =>
        (gev none .pick [x63, (.bool true), x72]).bind fun x73 =>
        (gev (some (x73, false)) .id [(e41.getD 0 .undef)]).bind fun x74 =>
        (gev (some (x73, false)) (.f2f .f32 .f64) [x74]).bind fun x75 =>
        (gev (some (x73, false)) .id [x48]).bind fun x76 =>
        (gev (some (x73, false)) (.far .mul .f64) [(.flt 4607186922399644778), x76]).bind fun x77 =>
        (gev (some (x73, false)) (.fcm .gtr .f64) [x75, x77]).bind fun x78 =>
        (gev none .pick [x73, (.bool true), x78]).bind fun x79 =>
        (gev (some (x79, false)) .id [x6]).bind fun x80 =>
        (gev (some (x79, false)) .id [x10]).bind fun x81 =>
        (gcall G (some (x79, false)) 321 [x80, x81] 1).bind fun e82 =>
        (gev (some (x79, false)) .id [(e41.getD 0 .undef)]).bind fun x83 =>
        (gev (some (x79, false)) .id [(e43.getD 0 .undef)]).bind fun x84 =>
        (gev (some (x79, false)) (.fcm .leq .f32) [x83, x84]).bind fun x85 =>
        (gev (some (x79, false)) .bne [(e82.getD 0 .undef), x85]).bind fun x86 =>
        (gev none .pick [x79, (.bool true), x86]).bind fun x87 =>
        tif x87 (
          some (0, [(.bool false)])) (
          (gcall G none 472 [(.int 8), (.int 4), x6, x10] 3).bind fun e88 =>
          (gev none (.far .mul .f32) [x10, (.flt 1048576000)]).bind fun x91 =>
          (gcall G none 470 [(.int 8), (.int 4), x6, x91] 3).bind fun e92 =>
          (gev none .bnot [(e88.getD 2 .undef)]).bind fun x95 =>
          (gev (some (x95, false)) .id [(e92.getD 2 .undef)]).bind fun x96 =>
          (gev (some (x95, false)) .bnot [x96]).bind fun x97 =>
          (gev none .pick [x95, (.bool true), x97]).bind fun x98 =>
          (gcall G (some (x98, false)) 480 [(e88.getD 0 .undef), (e88.getD 1 .undef), (e92.getD 0 .undef), (e92.getD 1 .undef)] 1).bind fun e99 =>
          (gev (some (x98, false)) .bnot [(e99.getD 0 .undef)]).bind fun x100 =>
          (gev none .pick [x98, (.bool true), x100]).bind fun x101 =>
          tif x101 (
            some (0, [(.bool false)])) (
            tjoin 4 (
              iter (tbody 1 (S485L0 G x6 e11 e88)) fuel [(.int 0)]) fun _e102 =>
            some (0, [(.bool true)]))))))
theorem eq485 {G : Told} {fuel : Nat} (x0 x1 : D) : run G fuel T485 [x0, x1] = S485 G fuel x0 x1 := by
  rw [run_eq]; kernel_rfl

theorem mesh8 : validP 40 (triA 8 32) = true := by decide +kernel
theorem rb84 : ringB 8 4 = true := by decide
attribute [local irreducible] fadd fsub fmul fdiv fneg finP overP feq flt fle fgt fge i2f f2i wide f2f ibits canon vl il tl totL szM validP sinQ sin0 ringV ringA triA filV filA filZ filW widthO areaO neckO IntKind.wrap tif tjoin longP radP gapP F231

set_option maxHeartbeats 4000000 in
theorem loop485 {G : Told} (g15 : G 15 = F15) (g231 : G 231 = F231) {r g l : Nat} {t : D} (hp : ∀ i, i < 40 → PlaceF (edgeB i) l r (longP (filV 8 4 r g l i).x (filV 8 4 r g l i).y 0)) :
    iter (tbody 1 (S485L0 G (.flt r) [.flt l, .bool true] [vl (filA 8 4 r g l 40), t, .bool true])) 41 [.int 0] = some (0, [.int 40, .int 40, .int 40, .bool false]) := by
  have hn := len_vl (l := filA 8 4 r g l 40)
  rw [filA_length] at hn
  have h1 := iter_upto (body := tbody 1 (S485L0 G (.flt r) [.flt l, .bool true] [vl (filA 8 4 r g l 40), t, .bool true])) (n := 40) (l := 0) (ds := [.int 40, .int 40, .int 40, .bool false])
    (fun i => [.int (i : Int)]) ?_ ?_
  · exact h1
  · intro i hi
    refine tb rfl ?_
    have h0 : decide ((i : Int) < ((40 : Nat) : Int)) = true := by simp; omega
    have hlen : i < (filA 8 4 r g l 40).length := by rw [filA_length]; exact hi
    have hx := idx_vl hlen
    rw [filA_get] at hx
    have hx : gev none .idx [vl (filA 8 4 r g l 40), .int i] = some (.agg [.flt (filV 8 4 r g l i).x, .flt (filV 8 4 r g l i).y, .flt (filV 8 4 r g l i).z]) := hx
    obtain ⟨p1, p2, p3⟩ := hp i hi
    have e15 : F15 [.flt (filV 8 4 r g l i).x, .flt (filV 8 4 r g l i).y, .flt 0] = some [.flt (longP (filV 8 4 r g l i).x (filV 8 4 r g l i).y 0)] := rfl
    generalize longP (filV 8 4 r g l i).x (filV 8 4 r g l i).y 0 = w at p1 p2 p3 e15
    generalize (filV 8 4 r g l i).x = x at hx e15
    generalize (filV 8 4 r g l i).y = y at hx e15
    generalize (filV 8 4 r g l i).z = z at hx
    have a1 := add1n (i := i) (by omega)
    by_cases i8 : i < 8
    · have c1 : decide ((i : Int) < 8) = true := by simp; omega
      obtain ⟨d, e231, p4⟩ := p3 (by unfold edgeB; simp [i8])
      unfold S485L0
      repeat' first
        | with_reducible refine st_ift ?_
        | with_reducible refine st_iff ?_
        | ((with_reducible apply st_call); exact g15; exact rfl; exact e15; exact rfl)
        | ((with_reducible apply st_call); exact g231; exact rfl; exact e231; exact rfl)
        | ((with_reducible apply st_some); exact hn)
        | ((with_reducible apply st_some); exact hx)
        | ((with_reducible apply st_some); exact a1)
        | ((with_reducible apply st_callt); assumption; exact rfl; exact rfl; assumption)
        | ((with_reducible apply st_callf); assumption; exact rfl; exact rfl; assumption)
        | ((with_reducible apply st_call); assumption; exact rfl; exact rfl; exact rfl)
        | ((with_reducible apply st_wide); exact rfl; exact rfl)
        | ((with_reducible apply st_skip); exact rfl)
        | ((with_reducible apply st_t); exact rfl; exact rfl)
        | ((with_reducible apply st_f); exact rfl; exact rfl)
        | ((with_reducible apply st_t); exact rfl; assumption)
        | ((with_reducible apply st_f); exact rfl; assumption)
        | ((with_reducible apply st_some); exact rfl)
        | exact rfl
    · have c1 : decide ((i : Int) < 8) = false := by simp; omega
      by_cases i32 : 32 ≤ i
      · have c2 : decide ((i : Int) ≥ 32) = true := by simp; omega
        obtain ⟨d, e231, p4⟩ := p3 (by unfold edgeB; simp [i32])
        unfold S485L0
        repeat' first
          | with_reducible refine st_ift ?_
          | with_reducible refine st_iff ?_
          | ((with_reducible apply st_call); exact g15; exact rfl; exact e15; exact rfl)
          | ((with_reducible apply st_call); exact g231; exact rfl; exact e231; exact rfl)
          | ((with_reducible apply st_some); exact hn)
          | ((with_reducible apply st_some); exact hx)
          | ((with_reducible apply st_some); exact a1)
          | ((with_reducible apply st_callt); assumption; exact rfl; exact rfl; assumption)
          | ((with_reducible apply st_callf); assumption; exact rfl; exact rfl; assumption)
          | ((with_reducible apply st_call); assumption; exact rfl; exact rfl; exact rfl)
          | ((with_reducible apply st_wide); exact rfl; exact rfl)
          | ((with_reducible apply st_skip); exact rfl)
          | ((with_reducible apply st_t); exact rfl; exact rfl)
          | ((with_reducible apply st_f); exact rfl; exact rfl)
          | ((with_reducible apply st_t); exact rfl; assumption)
          | ((with_reducible apply st_f); exact rfl; assumption)
          | ((with_reducible apply st_some); exact rfl)
          | exact rfl
      · have c2 : decide ((i : Int) ≥ 32) = false := by simp; omega
        unfold S485L0
        repeat' first
          | with_reducible refine st_ift ?_
          | with_reducible refine st_iff ?_
          | ((with_reducible apply st_call); exact g15; exact rfl; exact e15; exact rfl)
          | ((with_reducible apply st_some); exact hn)
          | ((with_reducible apply st_some); exact hx)
          | ((with_reducible apply st_some); exact a1)
          | ((with_reducible apply st_callt); assumption; exact rfl; exact rfl; assumption)
          | ((with_reducible apply st_callf); assumption; exact rfl; exact rfl; assumption)
          | ((with_reducible apply st_call); assumption; exact rfl; exact rfl; exact rfl)
          | ((with_reducible apply st_wide); exact rfl; exact rfl)
          | ((with_reducible apply st_skip); exact rfl)
          | ((with_reducible apply st_t); exact rfl; exact rfl)
          | ((with_reducible apply st_f); exact rfl; exact rfl)
          | ((with_reducible apply st_t); exact rfl; assumption)
          | ((with_reducible apply st_f); exact rfl; assumption)
          | ((with_reducible apply st_some); exact rfl)
          | exact rfl
  · refine tb rfl ?_
    have h0 : decide (((40 : Nat) : Int) < ((40 : Nat) : Int)) = false := by simp
    unfold S485L0
    repeat' first
      | with_reducible refine st_ift ?_
      | with_reducible refine st_iff ?_
      | ((with_reducible apply st_some); exact hn)
      | ((with_reducible apply st_callt); assumption; exact rfl; exact rfl; assumption)
      | ((with_reducible apply st_callf); assumption; exact rfl; exact rfl; assumption)
      | ((with_reducible apply st_call); assumption; exact rfl; exact rfl; exact rfl)
      | ((with_reducible apply st_wide); exact rfl; exact rfl)
      | ((with_reducible apply st_skip); exact rfl)
      | ((with_reducible apply st_t); exact rfl; exact rfl)
      | ((with_reducible apply st_f); exact rfl; exact rfl)
      | ((with_reducible apply st_t); exact rfl; assumption)
      | ((with_reducible apply st_f); exact rfl; assumption)
      | ((with_reducible apply st_some); exact rfl)
      | exact rfl
set_option maxHeartbeats 4000000 in
theorem run485 {G : Told} (g3 : G 3 = F3) (g7 : G 7 = F7) (g15 : G 15 = F15) (g220 : G 220 = F220) (g221 : G 221 = F221) (g231 : G 231 = F231) (g315 : G 315 = F315) (g317 : G 317 = F317) (g319 : G 319 = F319) (g321 : G 321 = F321) (g470 : G 470 = F470) (g472 : G 472 = F472) (g480 : G 480 = F480) :
    ∀ ds rs, F485 ds = some rs → ∃ fuel, run G fuel T485 ds = some (0, rs) := by
  intro ds rs h
  unfold F485 at h
  split at h
  case h_2 => cases h
  rename_i a b
  obtain ⟨l, ha, h⟩ := Option.bind_eq_some_iff.1 h
  obtain ⟨m, hb, h⟩ := Option.bind_eq_some_iff.1 h
  split at h
  case isFalse => cases h
  rename_i hc
  rw [dI_inv ha, dI_inv hb]
  simp only [Option.some.injEq] at h
  subst h
  refine ⟨41, ?_⟩
  rw [eq485]
  unfold S485
  have e20 := F220_m (l := l) (m := m)
  cases hlong : (decide (l.length > 48) || decide (m.length > 48))
  case true =>
    rw [hlong] at e20
    repeat' first
      | with_reducible refine st_ift ?_
      | with_reducible refine st_iff ?_
      | ((with_reducible apply st_ift3); exact rfl)
      | ((with_reducible apply st_iff3); exact rfl)
      | ((with_reducible apply st_call); exact g220; exact rfl; exact e20; exact rfl)
      | ((with_reducible apply st_callt); assumption; exact rfl; exact rfl; assumption)
      | ((with_reducible apply st_callf); assumption; exact rfl; exact rfl; assumption)
      | ((with_reducible apply st_call); assumption; exact rfl; exact rfl; exact rfl)
      | ((with_reducible apply st_wide); exact rfl; exact rfl)
      | ((with_reducible apply st_skip); exact rfl)
      | ((with_reducible apply st_t); exact rfl; exact rfl)
      | ((with_reducible apply st_f); exact rfl; exact rfl)
      | ((with_reducible apply st_t); exact rfl; assumption)
      | ((with_reducible apply st_f); exact rfl; assumption)
      | ((with_reducible apply st_some); exact rfl)
      | exact rfl
  rw [hlong] at e20
  have e21 : F221 [il l, .int 0, .int 16] = some [.int (atP l 0 16 : Nat)] := F221_m (k := 0) (n := 16) hc (by omega)
  have e22 : F221 [il l, .int 1, .int 32] = some [.int (atP l 1 32 : Nat)] := F221_m (k := 1) (n := 32) hc (by omega)
  have ha16 := atP_lt (l := l) (k := 0) (n := 16) (by omega)
  have hb32 := atP_lt (l := l) (k := 1) (n := 32) (by omega)
  generalize atP l 0 16 = p at e21 ha16
  generalize atP l 1 32 = q at e22 hb32
  have hnk := nk_inv (nk_all ha16 hb32)
  obtain ⟨_, ho⟩ := radP_eq p ha16
  obtain ⟨_, hg, hg4⟩ := gapP_mem q hb32
  have a1 : gev none (.iar .add .i64) [.int 1, .int p] = some (.int ((1 + p : Nat) : Int)) := addN (a := 1) (by omega)
  have a2 : gev none (.iar .add .i64) [.int 1, .int q] = some (.int ((1 + q : Nat) : Int)) := addN (a := 1) (by omega)
  have r1 : gev none (.far .quo .f32) [.flt (i2f .f32 ((1 + p : Nat) : Int)), .flt 1082130432] = some (.flt (radP p)) := by unfold radP; rfl
  have r2 : gev none (.far .quo .f32) [.flt (i2f .f32 ((1 + q : Nat) : Int)), .flt 1098907648] = some (.flt (gapP q)) := by unfold gapP; rfl
  generalize radP p = r at *
  generalize gapP q = g at *
  have e3 : F3 [.flt r] = some [.flt (fmul .f32 1068083597 r), .bool true] := by
    simp only [F3]
    rw [if_pos ho]
  have e17 : F317 [.flt r, .flt g] = (neckO r g).map neckD := by
    simp only [F317]
    rw [ho, hg]
    rfl
  have e321 : F321 [.flt r, .flt g] = ((neckO r g).bind (holdO r g)).map fun b => [.bool b] := by
    simp only [F321]
    rw [ho, hg]
    rfl
  rcases hnk with ⟨hn, hlt⟩ | ⟨n, w, a, hn, h1, hw, ⟨d, e231, h2⟩, h3, h4, har, h5, hp⟩
  · rw [hn] at e17 e321
    have e17 : F317 [.flt r, .flt g] = some [.flt 0, .bool false] := e17
    have e321 : F321 [.flt r, .flt g] = some [.bool false] := e321
    cases hgt : fgt .f64 (wide g) (fmul .f64 4607186922399644778 (wide (fmul .f32 1068083597 r)))
    · repeat' first
        | with_reducible refine st_ift ?_
        | with_reducible refine st_iff ?_
        | ((with_reducible apply st_ift3); exact rfl)
        | ((with_reducible apply st_iff3); exact rfl)
        | ((with_reducible apply st_call); exact g220; exact rfl; exact e20; exact rfl)
        | ((with_reducible apply st_call); exact g221; exact rfl; exact e21; exact rfl)
        | ((with_reducible apply st_call); exact g221; exact rfl; exact e22; exact rfl)
        | ((with_reducible apply st_call); exact g3; exact rfl; exact e3; exact rfl)
        | ((with_reducible apply st_call); exact g317; exact rfl; exact e17; exact rfl)
        | ((with_reducible apply st_call); exact g321; exact rfl; exact e321; exact rfl)
        | ((with_reducible apply st_some); exact a1)
        | ((with_reducible apply st_some); exact a2)
        | ((with_reducible apply st_some); exact r1)
        | ((with_reducible apply st_some); exact r2)
        | ((with_reducible apply st_callt); assumption; exact rfl; exact rfl; assumption)
        | ((with_reducible apply st_callf); assumption; exact rfl; exact rfl; assumption)
        | ((with_reducible apply st_call); assumption; exact rfl; exact rfl; exact rfl)
        | ((with_reducible apply st_wide); exact rfl; exact rfl)
        | ((with_reducible apply st_skip); exact rfl)
        | ((with_reducible apply st_t); exact rfl; exact rfl)
        | ((with_reducible apply st_f); exact rfl; exact rfl)
        | ((with_reducible apply st_t); exact rfl; assumption)
        | ((with_reducible apply st_f); exact rfl; assumption)
        | ((with_reducible apply st_some); exact rfl)
        | exact rfl
    · repeat' first
        | with_reducible refine st_ift ?_
        | with_reducible refine st_iff ?_
        | ((with_reducible apply st_ift3); exact rfl)
        | ((with_reducible apply st_iff3); exact rfl)
        | ((with_reducible apply st_call); exact g220; exact rfl; exact e20; exact rfl)
        | ((with_reducible apply st_call); exact g221; exact rfl; exact e21; exact rfl)
        | ((with_reducible apply st_call); exact g221; exact rfl; exact e22; exact rfl)
        | ((with_reducible apply st_call); exact g3; exact rfl; exact e3; exact rfl)
        | ((with_reducible apply st_call); exact g317; exact rfl; exact e17; exact rfl)
        | ((with_reducible apply st_call); exact g321; exact rfl; exact e321; exact rfl)
        | ((with_reducible apply st_some); exact a1)
        | ((with_reducible apply st_some); exact a2)
        | ((with_reducible apply st_some); exact r1)
        | ((with_reducible apply st_some); exact r2)
        | ((with_reducible apply st_callt); assumption; exact rfl; exact rfl; assumption)
        | ((with_reducible apply st_callf); assumption; exact rfl; exact rfl; assumption)
        | ((with_reducible apply st_call); assumption; exact rfl; exact rfl; exact rfl)
        | ((with_reducible apply st_wide); exact rfl; exact rfl)
        | ((with_reducible apply st_skip); exact rfl)
        | ((with_reducible apply st_t); exact rfl; exact rfl)
        | ((with_reducible apply st_f); exact rfl; exact rfl)
        | ((with_reducible apply st_t); exact rfl; assumption)
        | ((with_reducible apply st_f); exact rfl; assumption)
        | ((with_reducible apply st_some); exact rfl)
        | exact rfl
  · rw [hn] at e17 e321
    have e17 : F317 [.flt r, .flt g] = some [.flt n, .bool true] := e17
    have e321 : F321 [.flt r, .flt g] = some [.bool (fle .f32 a (fmul .f32 (fmul .f32 1086918619 r) r))] := by
      rw [e321]
      simp only [Option.bind_some, holdO, har]
      rfl
    obtain ⟨o, ho2, hl⟩ := neck_R ho hg
    rw [hn] at ho2
    cases ho2
    obtain ⟨hno, _⟩ := hl n rfl
    have e315 : F315 [.flt n, .flt (fmul .f32 g 1056964608)] = some [.flt w, .bool true] := by
      simp only [F315]
      rw [if_pos hno, hw]
      rfl
    have e319 : F319 [.flt n, .flt g] = some [.flt a, .bool true] := by
      simp only [F319]
      rw [hno, hg, har]
      rfl
    have e7 : F7 [.flt r] = some [.flt (fmul .f32 (fmul .f32 1086918619 r) r), .bool true] := by
      simp only [F7]
      rw [if_pos ho]
    have hbb : ∀ b : Bool, (b != b) = false := by decide
    have hbb := hbb (fle .f32 a (fmul .f32 (fmul .f32 1086918619 r) r))
    have hok : ∀ s, overP s = true → ringOk 8 4 r s = true := fun s hs => by
      unfold ringOk
      rw [rb84, ho, hs]
      exact mesh8
    have e472 : F472 [.int 8, .int 4, .flt r, .flt g] = some [vl (filA 8 4 r g n 40), tl (triA 8 32), .bool true] := by
      simp only [F472, filmD, filmN]
      rw [ho, hg, hn, hok 1065353216 (by decide +kernel)]
      rfl
    have e470 : F470 [.int 8, .int 4, .flt r, .flt (fmul .f32 g 1048576000)] = some [vl (ringA 8 r (fmul .f32 g 1048576000) 40), tl (triA 8 32), .bool true] := by
      simp only [F470]
      rw [hok _ hg4]
      rfl
    have e480 : F480 [vl (filA 8 4 r g n 40), tl (triA 8 32), vl (ringA 8 r (fmul .f32 g 1048576000) 40), tl (triA 8 32)] = some [.bool true] := by
      refine F480_m (by rw [filA_length, ringA_length]) ?_ (by rw [filA_length]; exact mesh8)
      unfold szM
      rw [filA_length, triA_length, triA_totL]
      decide
    have hloop := loop485 (G := G) g15 g231 (t := tl (triA 8 32)) hp
    cases hlt : Vs.flt .f64 (wide g) (fmul .f64 4607173411600762667 (wide (fmul .f32 1068083597 r)))
    · repeat' first
        | with_reducible refine st_ift ?_
        | with_reducible refine st_iff ?_
        | ((with_reducible apply st_ift3); exact rfl)
        | ((with_reducible apply st_iff3); exact rfl)
        | ((with_reducible apply st_call); exact g220; exact rfl; exact e20; exact rfl)
        | ((with_reducible apply st_call); exact g221; exact rfl; exact e21; exact rfl)
        | ((with_reducible apply st_call); exact g221; exact rfl; exact e22; exact rfl)
        | ((with_reducible apply st_call); exact g3; exact rfl; exact e3; exact rfl)
        | ((with_reducible apply st_call); exact g7; exact rfl; exact e7; exact rfl)
        | ((with_reducible apply st_call); exact g317; exact rfl; exact e17; exact rfl)
        | ((with_reducible apply st_call); exact g315; exact rfl; exact e315; exact rfl)
        | ((with_reducible apply st_call); exact g319; exact rfl; exact e319; exact rfl)
        | ((with_reducible apply st_call); exact g321; exact rfl; exact e321; exact rfl)
        | ((with_reducible apply st_call); exact g231; exact rfl; exact e231; exact rfl)
        | ((with_reducible apply st_call); exact g472; exact rfl; exact e472; exact rfl)
        | ((with_reducible apply st_call); exact g470; exact rfl; exact e470; exact rfl)
        | ((with_reducible apply st_call); exact g480; exact rfl; exact e480; exact rfl)
        | ((with_reducible apply st_join); exact hloop; exact rfl)
        | ((with_reducible apply st_some); exact a1)
        | ((with_reducible apply st_some); exact a2)
        | ((with_reducible apply st_some); exact r1)
        | ((with_reducible apply st_some); exact r2)
        | ((with_reducible apply st_callt); assumption; exact rfl; exact rfl; assumption)
        | ((with_reducible apply st_callf); assumption; exact rfl; exact rfl; assumption)
        | ((with_reducible apply st_call); assumption; exact rfl; exact rfl; exact rfl)
        | ((with_reducible apply st_wide); exact rfl; exact rfl)
        | ((with_reducible apply st_skip); exact rfl)
        | ((with_reducible apply st_t); exact rfl; exact rfl)
        | ((with_reducible apply st_f); exact rfl; exact rfl)
        | ((with_reducible apply st_t); exact rfl; assumption)
        | ((with_reducible apply st_f); exact rfl; assumption)
        | ((with_reducible apply st_some); exact rfl)
        | exact rfl
    · repeat' first
        | with_reducible refine st_ift ?_
        | with_reducible refine st_iff ?_
        | ((with_reducible apply st_ift3); exact rfl)
        | ((with_reducible apply st_iff3); exact rfl)
        | ((with_reducible apply st_call); exact g220; exact rfl; exact e20; exact rfl)
        | ((with_reducible apply st_call); exact g221; exact rfl; exact e21; exact rfl)
        | ((with_reducible apply st_call); exact g221; exact rfl; exact e22; exact rfl)
        | ((with_reducible apply st_call); exact g3; exact rfl; exact e3; exact rfl)
        | ((with_reducible apply st_call); exact g7; exact rfl; exact e7; exact rfl)
        | ((with_reducible apply st_call); exact g317; exact rfl; exact e17; exact rfl)
        | ((with_reducible apply st_call); exact g315; exact rfl; exact e315; exact rfl)
        | ((with_reducible apply st_call); exact g319; exact rfl; exact e319; exact rfl)
        | ((with_reducible apply st_call); exact g321; exact rfl; exact e321; exact rfl)
        | ((with_reducible apply st_call); exact g231; exact rfl; exact e231; exact rfl)
        | ((with_reducible apply st_call); exact g472; exact rfl; exact e472; exact rfl)
        | ((with_reducible apply st_call); exact g470; exact rfl; exact e470; exact rfl)
        | ((with_reducible apply st_call); exact g480; exact rfl; exact e480; exact rfl)
        | ((with_reducible apply st_join); exact hloop; exact rfl)
        | ((with_reducible apply st_some); exact a1)
        | ((with_reducible apply st_some); exact a2)
        | ((with_reducible apply st_some); exact r1)
        | ((with_reducible apply st_some); exact r2)
        | ((with_reducible apply st_callt); assumption; exact rfl; exact rfl; assumption)
        | ((with_reducible apply st_callf); assumption; exact rfl; exact rfl; assumption)
        | ((with_reducible apply st_call); assumption; exact rfl; exact rfl; exact rfl)
        | ((with_reducible apply st_wide); exact rfl; exact rfl)
        | ((with_reducible apply st_skip); exact rfl)
        | ((with_reducible apply st_t); exact rfl; exact rfl)
        | ((with_reducible apply st_f); exact rfl; exact rfl)
        | ((with_reducible apply st_t); exact rfl; assumption)
        | ((with_reducible apply st_f); exact rfl; assumption)
        | ((with_reducible apply st_some); exact rfl)
        | exact rfl
end Vs
