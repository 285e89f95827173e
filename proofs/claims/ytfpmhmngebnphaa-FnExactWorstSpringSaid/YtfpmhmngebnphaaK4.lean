/-
  WithoutPart: what the functions compute, and the law.
-/
import Derived.Test.YtfpmhmngebnphaaK3
namespace Vs
open Go

def lessV (v w : V3) : V3 := ⟨fsub .f32 v.x w.x, fsub .f32 v.y w.y, fsub .f32 v.z w.z⟩
def dotV (v w : V3) : Nat := innerP v.x v.y v.z w.x w.y w.z
def gainP (b c : Nat) : Nat := if fgt .f32 c 0 then fdiv .f32 b c else 0
/-- The inner product, of the first i places. -/
def innerN (vs ws : List V3) : Nat → Nat
  | 0 => 0
  | i + 1 => fadd .f32 (innerN vs ws i) (dotV (vs.getD i ⟨0, 0, 0⟩) (ws.getD i ⟨0, 0, 0⟩))
def innerL (vs ws : List V3) : Nat := innerN vs ws vs.length
def withoutL (vs ws : List V3) (h : Nat) : List V3 := vs.zipWith (fun v w => lessV v (V3.scale w h)) ws
def withoutP (vs ws : List V3) : List V3 := withoutL vs ws (gainP (innerL vs ws) (innerL ws ws))
noncomputable def F124 : List D → Option (List D) := on2 fun vs ws => if vs.length ≤ ws.length ∧ vs.length ≤ 1048576 then some [.flt (innerL vs ws)] else none
noncomputable def F125 : List D → Option (List D) := on2 fun vs ws =>
  if vs.length ≤ 1048576 ∧ ws.length ≤ 1048576 then some (if vs.length = ws.length ∧ vs.length ≤ 256 then [.flt (innerL vs ws), .bool true] else [.flt 0, .bool false]) else none
def F126 : List D → Option (List D) | [.flt x, .flt y] => some [.flt (gainP x y)] | _ => none
noncomputable def F123 : List D → Option (List D) := on2 fun vs ws => if vs.length = ws.length ∧ vs.length ≤ 1048576 then some [vl (withoutP vs ws)] else none
noncomputable def F122 : List D → Option (List D) := on2 fun vs ws =>
  if vs.length ≤ 1048576 ∧ ws.length ≤ 1048576 then some (if vs.length = ws.length ∧ vs.length ≤ 256 then [vl (withoutP vs ws), .bool true] else [vl [], .bool false]) else none
noncomputable def F130 : List D → Option (List D) := on2 fun vs ws => if vs.length < 9223372036854775808 ∧ ws.length < 9223372036854775808 then some [.bool true] else none
theorem F124_vl {vs ws : List V3} (h : vs.length ≤ ws.length) (h1 : vs.length ≤ 1048576) : F124 [vl vs, vl ws] = some [.flt (innerL vs ws)] := by simp [F124, on2_vl, h, h1]
theorem F125_vl {vs ws : List V3} (h : vs.length ≤ 1048576) (h1 : ws.length ≤ 1048576) : F125 [vl vs, vl ws] = some (if vs.length = ws.length ∧ vs.length ≤ 256 then [.flt (innerL vs ws), .bool true] else [.flt 0, .bool false]) := by
  simp only [F125, on2_vl]
  rw [if_pos ⟨h, h1⟩]
theorem F122_vl {vs ws : List V3} (h : vs.length ≤ 1048576) (h1 : ws.length ≤ 1048576) : F122 [vl vs, vl ws] = some (if vs.length = ws.length ∧ vs.length ≤ 256 then [vl (withoutP vs ws), .bool true] else [vl [], .bool false]) := by
  simp only [F122, on2_vl]
  rw [if_pos ⟨h, h1⟩]
theorem F123_vl {vs ws : List V3} (h : vs.length = ws.length) (h1 : vs.length ≤ 1048576) : F123 [vl vs, vl ws] = some [vl (withoutP vs ws)] := by
  simp only [F123, on2_vl]
  rw [if_pos ⟨h, h1⟩]
theorem len_withoutL {vs ws : List V3} {k : Nat} (h : vs.length = ws.length) : (withoutL vs ws k).length = vs.length := by simp [withoutL]; omega

def T124 : T :=
(.op none .len [(.v 0)] <|
(.join 3
  (.loop [(.c (.flt 0)), (.c (.int 0))]
    (.op none (.icm .lss) [(.v 4), (.v 2)] <|
    (.ite (.v 5)
      (.op none .idx [(.v 0), (.v 4)] <|
      (.op none (.proj 0) [(.v 6)] <|
      (.op none (.proj 1) [(.v 6)] <|
      (.op none (.proj 2) [(.v 6)] <|
      (.op none .idx [(.v 1), (.v 4)] <|
      (.op none (.proj 0) [(.v 10)] <|
      (.op none (.proj 1) [(.v 10)] <|
      (.op none (.proj 2) [(.v 10)] <|
      (.call none 14 [(.v 7), (.v 8), (.v 9), (.v 11), (.v 12), (.v 13)] 1 <|
      (.op none (.far .add .f32) [(.v 3), (.v 14)] <|
      (.op none (.iar .add .i64) [(.v 4), (.c (.int 1))] <|
      (.out 0 [(.v 15), (.v 16)]))))))))))))
      (.out 1 [(.v 3), (.v 4), (.v 5)]))))
(.out 0 [(.v 3)])))
def S124L0 (G : Told) (x0 : D) (x1 : D) (x2 : D) : List D → Option (Nat × List D) := fun e3 =>
      (gev none (.icm .lss) [(e3.getD 1 .undef), x2]).bind fun x5 =>
      tif x5 (
        (gev none .idx [x0, (e3.getD 1 .undef)]).bind fun x6 =>
        (gev none (.proj 0) [x6]).bind fun x7 =>
        (gev none (.proj 1) [x6]).bind fun x8 =>
        (gev none (.proj 2) [x6]).bind fun x9 =>
        (gev none .idx [x1, (e3.getD 1 .undef)]).bind fun x10 =>
        (gev none (.proj 0) [x10]).bind fun x11 =>
        (gev none (.proj 1) [x10]).bind fun x12 =>
        (gev none (.proj 2) [x10]).bind fun x13 =>
        (gcall G none 14 [x7, x8, x9, x11, x12, x13] 1).bind fun e14 =>
        (gev none (.far .add .f32) [(e3.getD 0 .undef), (e14.getD 0 .undef)]).bind fun x15 =>
        (gev none (.iar .add .i64) [(e3.getD 1 .undef), (.int 1)]).bind fun x16 =>
        some (0, [x15, x16])) (
        some (1, [(e3.getD 0 .undef), (e3.getD 1 .undef), x5]))
def S124 (G : Told) (fuel : Nat) (x0 x1 : D) : Option (Nat × List D) :=
  (gev none .len [x0]).bind fun x2 =>
  tjoin 3 (
    iter (tbody 2 (S124L0 G x0 x1 x2)) fuel [(.flt 0), (.int 0)]) fun e3 =>
  some (0, [(e3.getD 0 .undef)])
theorem eq124 {G : Told} {fuel : Nat} (x0 x1 : D) : run G fuel T124 [x0, x1] = S124 G fuel x0 x1 := by
  rw [run_eq]; kernel_rfl

def T125 : T :=
(.op none .len [(.v 0)] <|
(.op none .len [(.v 1)] <|
(.op none (.icm .neq) [(.v 2), (.v 3)] <|
(.op (some ((.v 4), false)) .id [(.v 0)] <|
(.op (some ((.v 4), false)) .len [(.v 5)] <|
(.op (some ((.v 4), false)) (.icm .gtr) [(.v 6), (.c (.int 256))] <|
(.op none .pick [(.v 4), (.c (.bool true)), (.v 7)] <|
(.ite (.v 8)
  (.out 0 [(.c (.flt 0)), (.c (.bool false))])
  (.call none 124 [(.v 0), (.v 1)] 1 <|
  (.out 0 [(.v 9), (.c (.bool true))]))))))))))
def S125 (G : Told) (_fuel : Nat) (x0 x1 : D) : Option (Nat × List D) :=
  (gev none .len [x0]).bind fun x2 =>
  (gev none .len [x1]).bind fun x3 =>
  (gev none (.icm .neq) [x2, x3]).bind fun x4 =>
  (gev (some (x4, false)) .id [x0]).bind fun x5 =>
  (gev (some (x4, false)) .len [x5]).bind fun x6 =>
  (gev (some (x4, false)) (.icm .gtr) [x6, (.int 256)]).bind fun x7 =>
  (gev none .pick [x4, (.bool true), x7]).bind fun x8 =>
  tif x8 (
    some (0, [(.flt 0), (.bool false)])) (
    (gcall G none 124 [x0, x1] 1).bind fun e9 =>
    some (0, [(e9.getD 0 .undef), (.bool true)]))
theorem eq125 {G : Told} {fuel : Nat} (x0 x1 : D) : run G fuel T125 [x0, x1] = S125 G fuel x0 x1 := by
  rw [run_eq]; kernel_rfl

def T126 : T :=
(.op none (.fcm .gtr .f32) [(.v 1), (.c (.flt 0))] <|
(.ite (.v 2)
  (.op none (.far .quo .f32) [(.v 0), (.v 1)] <|
  (.out 0 [(.v 3)]))
  (.out 0 [(.c (.flt 0))])))
def S126 (_G : Told) (_fuel : Nat) (x0 x1 : D) : Option (Nat × List D) :=
  (gev none (.fcm .gtr .f32) [x1, (.flt 0)]).bind fun x2 =>
  tif x2 (
    (gev none (.far .quo .f32) [x0, x1]).bind fun x3 =>
    some (0, [x3])) (
    some (0, [(.flt 0)]))
theorem eq126 {G : Told} {fuel : Nat} (x0 x1 : D) : run G fuel T126 [x0, x1] = S126 G fuel x0 x1 := by
  rw [run_eq]; kernel_rfl

def T123 : T :=
(.call none 124 [(.v 0), (.v 1)] 1 <|
(.call none 124 [(.v 1), (.v 1)] 1 <|
(.call none 126 [(.v 2), (.v 3)] 1 <|
(.op none .mklst [] <|
(.op none .len [(.v 0)] <|
(.join 3
  (.loop [(.v 5), (.c (.int 0))]
    (.op none (.icm .lss) [(.v 8), (.v 6)] <|
    (.ite (.v 9)
      (.op none .idx [(.v 0), (.v 8)] <|
      (.op none (.proj 0) [(.v 10)] <|
      (.op none (.proj 1) [(.v 10)] <|
      (.op none (.proj 2) [(.v 10)] <|
      (.op none .idx [(.v 1), (.v 8)] <|
      (.op none (.proj 0) [(.v 14)] <|
      (.op none (.proj 1) [(.v 14)] <|
      (.op none (.proj 2) [(.v 14)] <|
      (.call none 31 [(.v 15), (.v 16), (.v 17), (.v 4)] 3 <|
      (.call none 13 [(.v 11), (.v 12), (.v 13), (.v 18), (.v 19), (.v 20)] 3 <|
      (.op none .mkagg [(.v 21), (.v 22), (.v 23)] <|
      (.op none .mklst [(.v 24)] <|
      (.op none .app [(.v 7), (.v 25)] <|
      (.op none (.iar .add .i64) [(.v 8), (.c (.int 1))] <|
      (.out 0 [(.v 26), (.v 27)])))))))))))))))
      (.out 1 [(.v 7), (.v 8), (.v 9)]))))
(.out 0 [(.v 7)])))))))
def S123L0 (G : Told) (x0 : D) (x1 : D) (e4 : List D) (x6 : D) : List D → Option (Nat × List D) := fun e7 =>
      (gev none (.icm .lss) [(e7.getD 1 .undef), x6]).bind fun x9 =>
      tif x9 (
        (gev none .idx [x0, (e7.getD 1 .undef)]).bind fun x10 =>
        (gev none (.proj 0) [x10]).bind fun x11 =>
        (gev none (.proj 1) [x10]).bind fun x12 =>
        (gev none (.proj 2) [x10]).bind fun x13 =>
        (gev none .idx [x1, (e7.getD 1 .undef)]).bind fun x14 =>
        (gev none (.proj 0) [x14]).bind fun x15 =>
        (gev none (.proj 1) [x14]).bind fun x16 =>
        (gev none (.proj 2) [x14]).bind fun x17 =>
        (gcall G none 31 [x15, x16, x17, (e4.getD 0 .undef)] 3).bind fun e18 =>
        (gcall G none 13 [x11, x12, x13, (e18.getD 0 .undef), (e18.getD 1 .undef), (e18.getD 2 .undef)] 3).bind fun e21 =>
        (gev none .mkagg [(e21.getD 0 .undef), (e21.getD 1 .undef), (e21.getD 2 .undef)]).bind fun x24 =>
        (gev none .mklst [x24]).bind fun x25 =>
        (gev none .app [(e7.getD 0 .undef), x25]).bind fun x26 =>
        (gev none (.iar .add .i64) [(e7.getD 1 .undef), (.int 1)]).bind fun x27 =>
        some (0, [x26, x27])) (
        some (1, [(e7.getD 0 .undef), (e7.getD 1 .undef), x9]))
def S123 (G : Told) (fuel : Nat) (x0 x1 : D) : Option (Nat × List D) :=
  (gcall G none 124 [x0, x1] 1).bind fun e2 =>
  (gcall G none 124 [x1, x1] 1).bind fun e3 =>
  (gcall G none 126 [(e2.getD 0 .undef), (e3.getD 0 .undef)] 1).bind fun e4 =>
  (gev none .mklst []).bind fun x5 =>
  (gev none .len [x0]).bind fun x6 =>
  tjoin 3 (
    iter (tbody 2 (S123L0 G x0 x1 e4 x6)) fuel [x5, (.int 0)]) fun e7 =>
  some (0, [(e7.getD 0 .undef)])
theorem eq123 {G : Told} {fuel : Nat} (x0 x1 : D) : run G fuel T123 [x0, x1] = S123 G fuel x0 x1 := by
  rw [run_eq]; kernel_rfl

def T122 : T :=
(.call none 125 [(.v 0), (.v 1)] 2 <|
(.op none .bnot [(.v 3)] <|
(.ite (.v 4)
  (.out 0 [(.c (.lst [])), (.c (.bool false))])
  (.call none 124 [(.v 1), (.v 1)] 1 <|
  (.op none (.fcm .gtr .f32) [(.v 5), (.c (.flt 0))] <|
  (.join 1
    (.ite (.v 6)
      (.op none (.far .quo .f32) [(.v 2), (.v 5)] <|
      (.out 0 [(.v 7)]))
      (.out 0 [(.c (.flt 0))]))
  (.op none .mklst [] <|
  (.op none .len [(.v 0)] <|
  (.join 3
    (.loop [(.v 8), (.c (.int 0))]
      (.op none (.icm .lss) [(.v 11), (.v 9)] <|
      (.ite (.v 12)
        (.op none .idx [(.v 0), (.v 11)] <|
        (.op none (.proj 0) [(.v 13)] <|
        (.op none (.proj 1) [(.v 13)] <|
        (.op none (.proj 2) [(.v 13)] <|
        (.op none .idx [(.v 1), (.v 11)] <|
        (.op none (.proj 0) [(.v 17)] <|
        (.op none (.proj 1) [(.v 17)] <|
        (.op none (.proj 2) [(.v 17)] <|
        (.call none 31 [(.v 18), (.v 19), (.v 20), (.v 7)] 3 <|
        (.call none 13 [(.v 14), (.v 15), (.v 16), (.v 21), (.v 22), (.v 23)] 3 <|
        (.op none .mkagg [(.v 24), (.v 25), (.v 26)] <|
        (.op none .mklst [(.v 27)] <|
        (.op none .app [(.v 10), (.v 28)] <|
        (.op none (.iar .add .i64) [(.v 11), (.c (.int 1))] <|
        (.out 0 [(.v 29), (.v 30)])))))))))))))))
        (.out 1 [(.v 10), (.v 11), (.v 12)]))))
  (.out 0 [(.v 10), (.c (.bool true))]))))))))))
def S122L0 (G : Told) (x0 : D) (x1 : D) (e7 : List D) (x9 : D) : List D → Option (Nat × List D) := fun e10 =>
        (gev none (.icm .lss) [(e10.getD 1 .undef), x9]).bind fun x12 =>
        tif x12 (
          (gev none .idx [x0, (e10.getD 1 .undef)]).bind fun x13 =>
          (gev none (.proj 0) [x13]).bind fun x14 =>
          (gev none (.proj 1) [x13]).bind fun x15 =>
          (gev none (.proj 2) [x13]).bind fun x16 =>
          (gev none .idx [x1, (e10.getD 1 .undef)]).bind fun x17 =>
          (gev none (.proj 0) [x17]).bind fun x18 =>
          (gev none (.proj 1) [x17]).bind fun x19 =>
          (gev none (.proj 2) [x17]).bind fun x20 =>
          (gcall G none 31 [x18, x19, x20, (e7.getD 0 .undef)] 3).bind fun e21 =>
          (gcall G none 13 [x14, x15, x16, (e21.getD 0 .undef), (e21.getD 1 .undef), (e21.getD 2 .undef)] 3).bind fun e24 =>
          (gev none .mkagg [(e24.getD 0 .undef), (e24.getD 1 .undef), (e24.getD 2 .undef)]).bind fun x27 =>
          (gev none .mklst [x27]).bind fun x28 =>
          (gev none .app [(e10.getD 0 .undef), x28]).bind fun x29 =>
          (gev none (.iar .add .i64) [(e10.getD 1 .undef), (.int 1)]).bind fun x30 =>
          some (0, [x29, x30])) (
          some (1, [(e10.getD 0 .undef), (e10.getD 1 .undef), x12]))
def S122 (G : Told) (fuel : Nat) (x0 x1 : D) : Option (Nat × List D) :=
  (gcall G none 125 [x0, x1] 2).bind fun e2 =>
  (gev none .bnot [(e2.getD 1 .undef)]).bind fun x4 =>
  tif x4 (
    some (0, [(.lst []), (.bool false)])) (
    (gcall G none 124 [x1, x1] 1).bind fun e5 =>
    (gev none (.fcm .gtr .f32) [(e5.getD 0 .undef), (.flt 0)]).bind fun x6 =>
    tjoin 1 (
      tif x6 (
        (gev none (.far .quo .f32) [(e2.getD 0 .undef), (e5.getD 0 .undef)]).bind fun x7 =>
        some (0, [x7])) (
        some (0, [(.flt 0)]))) fun e7 =>
    (gev none .mklst []).bind fun x8 =>
    (gev none .len [x0]).bind fun x9 =>
    tjoin 3 (
      iter (tbody 2 (S122L0 G x0 x1 e7 x9)) fuel [x8, (.int 0)]) fun e10 =>
    some (0, [(e10.getD 0 .undef), (.bool true)]))
theorem eq122 {G : Told} {fuel : Nat} (x0 x1 : D) : run G fuel T122 [x0, x1] = S122 G fuel x0 x1 := by
  rw [run_eq]; kernel_rfl

def T122s : T :=
(.op none .len [(.v 0)] <|
(.op none .len [(.v 1)] <|
(.op none (.icm .neq) [(.v 2), (.v 3)] <|
(.op (some ((.v 4), false)) .id [(.v 0)] <|
(.op (some ((.v 4), false)) .len [(.v 5)] <|
(.op (some ((.v 4), false)) (.icm .gtr) [(.v 6), (.c (.int 256))] <|
(.op none .pick [(.v 4), (.c (.bool true)), (.v 7)] <|
(.ite (.v 8)
  (.out 0 [(.c (.lst [])), (.c (.bool false))])
  (.call none 123 [(.v 0), (.v 1)] 1 <|
  (.out 0 [(.v 9), (.c (.bool true))]))))))))))
def S122s (G : Told) (_fuel : Nat) (x0 x1 : D) : Option (Nat × List D) :=
  (gev none .len [x0]).bind fun x2 =>
  (gev none .len [x1]).bind fun x3 =>
  (gev none (.icm .neq) [x2, x3]).bind fun x4 =>
  (gev (some (x4, false)) .id [x0]).bind fun x5 =>
  (gev (some (x4, false)) .len [x5]).bind fun x6 =>
  (gev (some (x4, false)) (.icm .gtr) [x6, (.int 256)]).bind fun x7 =>
  (gev none .pick [x4, (.bool true), x7]).bind fun x8 =>
  tif x8 (
    some (0, [(.lst []), (.bool false)])) (
    (gcall G none 123 [x0, x1] 1).bind fun e9 =>
    some (0, [(e9.getD 0 .undef), (.bool true)]))
theorem eq122s {G : Told} {fuel : Nat} (x0 x1 : D) : run G fuel T122s [x0, x1] = S122s G fuel x0 x1 := by
  rw [run_eq]; kernel_rfl

def T130 : T :=
(.call none 120 [(.v 0), (.c (.int 1048576))] 1 <|
(.op none (.icm .lss) [(.v 2), (.c (.int 0))] <|
(.ite (.v 3)
  (.out 0 [(.c (.bool true))])
  (.call none 120 [(.v 1), (.v 2)] 1 <|
  (.op none (.icm .lss) [(.v 4), (.c (.int 0))] <|
  (.ite (.v 5)
    (.out 0 [(.c (.bool true))])
    (.call none 121 [(.v 0)] 1 <|
    (.call none 121 [(.v 1)] 1 <|
    (.call none 122 [(.v 6), (.v 7)] 2 <|
    (.call none 121 [(.v 0)] 1 <|
    (.call none 121 [(.v 1)] 1 <|
    (.call none 122 [(.v 10), (.v 11)] 2 <|
    (.call none 127 [(.v 12), (.v 8)] 1 <|
    (.op none .bnot [(.v 14)] <|
    (.op (some ((.v 15), false)) .id [(.v 13)] <|
    (.op (some ((.v 15), false)) .id [(.v 9)] <|
    (.op (some ((.v 15), false)) .bne [(.v 16), (.v 17)] <|
    (.op none .pick [(.v 15), (.c (.bool true)), (.v 18)] <|
    (.ite (.v 19)
      (.out 0 [(.c (.bool false))])
      (.call none 121 [(.v 0)] 1 <|
      (.call none 127 [(.v 10), (.v 20)] 1 <|
      (.op none .bnot [(.v 21)] <|
      (.ite (.v 22)
        (.out 0 [(.c (.bool false))])
        (.call none 121 [(.v 1)] 1 <|
        (.call none 127 [(.v 11), (.v 23)] 1 <|
        (.op none .bnot [(.v 24)] <|
        (.ite (.v 25)
          (.out 0 [(.c (.bool false))])
          (.call none 128 [(.v 10), (.c (.int 1))] 2 <|
          (.call none 128 [(.v 11), (.v 26)] 2 <|
          (.op none (.icm .lss) [(.v 28), (.c (.int 0))] <|
          (.call (some ((.v 30), false)) 127 [(.v 12), (.v 8)] 1 <|
          (.op (some ((.v 30), false)) .bnot [(.v 31)] <|
          (.op none .pick [(.v 30), (.c (.bool true)), (.v 32)] <|
          (.op (some ((.v 33), false)) .id [(.v 13)] <|
          (.op (some ((.v 33), false)) .id [(.v 9)] <|
          (.op (some ((.v 33), false)) .bne [(.v 34), (.v 35)] <|
          (.op none .pick [(.v 33), (.c (.bool true)), (.v 36)] <|
          (.ite (.v 37)
            (.out 0 [(.c (.bool false))])
            (.call none 128 [(.v 12), (.c (.int 1))] 2 <|
            (.call none 129 [(.v 39), (.c (.int 1))] 1 <|
            (.op none (.icm .lss) [(.v 40), (.c (.int 0))] <|
            (.ite (.v 41)
              (.out 0 [(.c (.bool false))])
              (.op none (.icm .neq) [(.v 40), (.v 38)] <|
              (.ite (.v 42)
                (.out 0 [(.c (.bool false))])
                (.call none 121 [(.v 0)] 1 <|
                (.call none 121 [(.v 1)] 1 <|
                (.call none 122 [(.v 43), (.v 44)] 2 <|
                (.call none 127 [(.v 45), (.v 8)] 1 <|
                (.op none .bnot [(.v 47)] <|
                (.op (some ((.v 48), false)) .id [(.v 46)] <|
                (.op (some ((.v 48), false)) .id [(.v 9)] <|
                (.op (some ((.v 48), false)) .bne [(.v 49), (.v 50)] <|
                (.op none .pick [(.v 48), (.c (.bool true)), (.v 51)] <|
                (.ite (.v 52)
                  (.out 0 [(.c (.bool false))])
                  (.call none 129 [(.v 39), (.c (.int 1))] 1 <|
                  (.op none (.icm .lss) [(.v 53), (.c (.int 0))] <|
                  (.ite (.v 54)
                    (.out 0 [(.c (.bool false))])
                    (.op none (.icm .neq) [(.v 53), (.v 38)] <|
                    (.ite (.v 55)
                      (.out 0 [(.c (.bool false))])
                      (.out 0 [(.c (.bool true))]))))))))))))))))))))))))))))))))))))))))))))))))))))))))))))
def S130 (G : Told) (_fuel : Nat) (x0 x1 : D) : Option (Nat × List D) :=
  (gcall G none 120 [x0, (.int 1048576)] 1).bind fun e2 =>
  (gev none (.icm .lss) [(e2.getD 0 .undef), (.int 0)]).bind fun x3 =>
  tif x3 (
    some (0, [(.bool true)])) (
    (gcall G none 120 [x1, (e2.getD 0 .undef)] 1).bind fun e4 =>
    (gev none (.icm .lss) [(e4.getD 0 .undef), (.int 0)]).bind fun x5 =>
    tif x5 (
      some (0, [(.bool true)])) (
      (gcall G none 121 [x0] 1).bind fun e6 =>
      (gcall G none 121 [x1] 1).bind fun e7 =>
      (gcall G none 122 [(e6.getD 0 .undef), (e7.getD 0 .undef)] 2).bind fun e8 =>
      (gcall G none 121 [x0] 1).bind fun e10 =>
      (gcall G none 121 [x1] 1).bind fun e11 =>
      (gcall G none 122 [(e10.getD 0 .undef), (e11.getD 0 .undef)] 2).bind fun e12 =>
      (gcall G none 127 [(e12.getD 0 .undef), (e8.getD 0 .undef)] 1).bind fun e14 =>
      (gev none .bnot [(e14.getD 0 .undef)]).bind fun x15 =>
      (gev (some (x15, false)) .id [(e12.getD 1 .undef)]).bind fun x16 =>
      (gev (some (x15, false)) .id [(e8.getD 1 .undef)]).bind fun x17 =>
      (gev (some (x15, false)) .bne [x16, x17]).bind fun x18 =>
      (gev none .pick [x15, (.bool true), x18]).bind fun x19 =>
      tif x19 (
        some (0, [(.bool false)])) (
        (gcall G none 121 [x0] 1).bind fun e20 =>
        (gcall G none 127 [(e10.getD 0 .undef), (e20.getD 0 .undef)] 1).bind fun e21 =>
        (gev none .bnot [(e21.getD 0 .undef)]).bind fun x22 =>
        tif x22 (
          some (0, [(.bool false)])) (
          (gcall G none 121 [x1] 1).bind fun e23 =>
          (gcall G none 127 [(e11.getD 0 .undef), (e23.getD 0 .undef)] 1).bind fun e24 =>
          (gev none .bnot [(e24.getD 0 .undef)]).bind fun x25 =>
          tif x25 (
            some (0, [(.bool false)])) (
            (gcall G none 128 [(e10.getD 0 .undef), (.int 1)] 2).bind fun e26 =>
            (gcall G none 128 [(e11.getD 0 .undef), (e26.getD 0 .undef)] 2).bind fun e28 =>
            (gev none (.icm .lss) [(e28.getD 0 .undef), (.int 0)]).bind fun x30 =>
            (gcall G (some (x30, false)) 127 [(e12.getD 0 .undef), (e8.getD 0 .undef)] 1).bind fun e31 =>
            (gev (some (x30, false)) .bnot [(e31.getD 0 .undef)]).bind fun x32 =>
            (gev none .pick [x30, (.bool true), x32]).bind fun x33 =>
            (gev (some (x33, false)) .id [(e12.getD 1 .undef)]).bind fun x34 =>
            (gev (some (x33, false)) .id [(e8.getD 1 .undef)]).bind fun x35 =>
            (gev (some (x33, false)) .bne [x34, x35]).bind fun x36 =>
            (gev none .pick [x33, (.bool true), x36]).bind fun x37 =>
            tif x37 (
              some (0, [(.bool false)])) (
              (gcall G none 128 [(e12.getD 0 .undef), (.int 1)] 2).bind fun e38 =>
              (gcall G none 129 [(e38.getD 1 .undef), (.int 1)] 1).bind fun e40 =>
              (gev none (.icm .lss) [(e40.getD 0 .undef), (.int 0)]).bind fun x41 =>
              tif x41 (
                some (0, [(.bool false)])) (
                (gev none (.icm .neq) [(e40.getD 0 .undef), (e38.getD 0 .undef)]).bind fun x42 =>
                tif x42 (
                  some (0, [(.bool false)])) (
                  (gcall G none 121 [x0] 1).bind fun e43 =>
                  (gcall G none 121 [x1] 1).bind fun e44 =>
                  (gcall G none 122 [(e43.getD 0 .undef), (e44.getD 0 .undef)] 2).bind fun e45 =>
                  (gcall G none 127 [(e45.getD 0 .undef), (e8.getD 0 .undef)] 1).bind fun e47 =>
                  (gev none .bnot [(e47.getD 0 .undef)]).bind fun x48 =>
                  (gev (some (x48, false)) .id [(e45.getD 1 .undef)]).bind fun x49 =>
                  (gev (some (x48, false)) .id [(e8.getD 1 .undef)]).bind fun x50 =>
                  (gev (some (x48, false)) .bne [x49, x50]).bind fun x51 =>
                  (gev none .pick [x48, (.bool true), x51]).bind fun x52 =>
                  tif x52 (
                    some (0, [(.bool false)])) (
                    (gcall G none 129 [(e38.getD 1 .undef), (.int 1)] 1).bind fun e53 =>
                    (gev none (.icm .lss) [(e53.getD 0 .undef), (.int 0)]).bind fun x54 =>
                    tif x54 (
                      some (0, [(.bool false)])) (
                      (gev none (.icm .neq) [(e53.getD 0 .undef), (e38.getD 0 .undef)]).bind fun x55 =>
                      tif x55 (
                        some (0, [(.bool false)])) (
                        some (0, [(.bool true)]))))))))))))
theorem eq130 {G : Told} {fuel : Nat} (x0 x1 : D) : run G fuel T130 [x0, x1] = S130 G fuel x0 x1 := by
  rw [run_eq]; kernel_rfl

attribute [local irreducible] tif tjoin IntKind.wrap feq fadd fmul fsub fdiv fgt i2f sameP wide eqV vl innerP gainP innerL withoutL withoutP
set_option maxHeartbeats 4000000 in
theorem run124 {G : Told} (g14 : G 14 = F14) : ∀ ds rs, F124 ds = some rs → ∃ fuel, run G fuel T124 ds = some (0, rs) := by
  intro ds rs h
  obtain ⟨vs, ws, rfl, hp⟩ := on2_inv h
  replace h := hp
  clear hp
  split at h
  · rename_i hc
    obtain ⟨hc, hb⟩ := hc
    simp only [Option.some.injEq] at h
    subst h
    refine ⟨vs.length + 1, ?_⟩
    rw [eq124]
    unfold S124
    have hn := len_vl (l := vs)
    have hloop : iter (tbody 2 (S124L0 G (vl vs) (vl ws) (.int (vs.length : Int)))) (vs.length + 1) [.flt 0, .int 0] = some (0, [.flt (innerL vs ws), .int (vs.length : Int), .bool false]) := by
      have h1 := iter_upto (body := tbody 2 (S124L0 G (vl vs) (vl ws) (.int (vs.length : Int)))) (n := vs.length) (l := 0) (ds := [.flt (innerL vs ws), .int (vs.length : Int), .bool false])
        (fun i => [.flt (innerN vs ws i), .int (i : Int)]) ?_ ?_
      · simpa [innerN] using h1
      · intro i hi
        refine tb rfl ?_
        have h0 : decide ((i : Int) < (vs.length : Int)) = true := by simpa using hi
        have hx := idx_vl hi
        have hy := idx_vl (l := ws) (i := i) (by omega)
        have ha := add1n (i := i) (by omega)
        have e : innerN vs ws (i + 1) = fadd .f32 (innerN vs ws i) (innerP vs[i].x vs[i].y vs[i].z ws[i].x ws[i].y ws[i].z) := by
          simp only [innerN, dotV, List.getD_eq_getElem?_getD, List.getElem?_eq_getElem hi, List.getElem?_eq_getElem (show i < ws.length by omega), Option.getD_some]
        rw [e]
        generalize innerN vs ws i = z
        unfold S124L0
        repeat' first
          | (apply st_some; exact hx)
          | (apply st_some; exact hy)
          | (apply st_some; exact ha)
          | (apply st_callt; assumption; exact rfl; exact rfl; assumption)
          | (apply st_callf; assumption; exact rfl; exact rfl; assumption)
          | (apply st_call; assumption; exact rfl; exact rfl; exact rfl)
          | (apply st_wide; exact rfl; exact rfl)
          | (apply st_skip; exact rfl)
          | (apply st_t; exact rfl; exact rfl)
          | (apply st_f; exact rfl; exact rfl)
          | (apply st_t; exact rfl; assumption)
          | (apply st_f; exact rfl; assumption)
          | (apply st_some; exact rfl)
          | refine st_ift ?_
          | refine st_iff ?_
          | exact rfl
      · refine tb rfl ?_
        have h0 : decide ((vs.length : Int) < (vs.length : Int)) = false := by simp
        have e : innerL vs ws = innerN vs ws vs.length := by unfold innerL; rfl
        rw [e]
        unfold S124L0
        repeat' first
          | (apply st_callt; assumption; exact rfl; exact rfl; assumption)
          | (apply st_callf; assumption; exact rfl; exact rfl; assumption)
          | (apply st_call; assumption; exact rfl; exact rfl; exact rfl)
          | (apply st_wide; exact rfl; exact rfl)
          | (apply st_skip; exact rfl)
          | (apply st_t; exact rfl; exact rfl)
          | (apply st_f; exact rfl; exact rfl)
          | (apply st_t; exact rfl; assumption)
          | (apply st_f; exact rfl; assumption)
          | (apply st_some; exact rfl)
          | refine st_ift ?_
          | refine st_iff ?_
          | exact rfl
    repeat' first
      | (apply st_join; exact hloop; exact rfl)
      | (apply st_some; exact hn)
      | (apply st_callt; assumption; exact rfl; exact rfl; assumption)
      | (apply st_callf; assumption; exact rfl; exact rfl; assumption)
      | (apply st_call; assumption; exact rfl; exact rfl; exact rfl)
      | (apply st_wide; exact rfl; exact rfl)
      | (apply st_skip; exact rfl)
      | (apply st_t; exact rfl; exact rfl)
      | (apply st_f; exact rfl; exact rfl)
      | (apply st_t; exact rfl; assumption)
      | (apply st_f; exact rfl; assumption)
      | (apply st_some; exact rfl)
      | refine st_ift ?_
      | refine st_iff ?_
      | exact rfl
  · cases h
set_option maxHeartbeats 4000000 in
theorem run126 {G : Told} : ∀ ds rs, F126 ds = some rs → ∃ fuel, run G fuel T126 ds = some (0, rs) := by
  intro ds rs h
  unfold F126 at h
  split at h <;> simp only [Option.some.injEq, reduceCtorEq] at h
  subst h
  rename_i x y
  refine ⟨0, ?_⟩
  rw [eq126]
  unfold S126 gainP
  cases hg : fgt .f32 y 0
  · repeat' first
      | (apply st_callt; assumption; exact rfl; exact rfl; assumption)
      | (apply st_callf; assumption; exact rfl; exact rfl; assumption)
      | (apply st_call; assumption; exact rfl; exact rfl; exact rfl)
      | (apply st_wide; exact rfl; exact rfl)
      | (apply st_skip; exact rfl)
      | (apply st_t; exact rfl; exact rfl)
      | (apply st_f; exact rfl; exact rfl)
      | (apply st_t; exact rfl; assumption)
      | (apply st_f; exact rfl; assumption)
      | (apply st_some; exact rfl)
      | refine st_ift ?_
      | refine st_iff ?_
      | exact rfl
  · repeat' first
      | (apply st_callt; assumption; exact rfl; exact rfl; assumption)
      | (apply st_callf; assumption; exact rfl; exact rfl; assumption)
      | (apply st_call; assumption; exact rfl; exact rfl; exact rfl)
      | (apply st_wide; exact rfl; exact rfl)
      | (apply st_skip; exact rfl)
      | (apply st_t; exact rfl; exact rfl)
      | (apply st_f; exact rfl; exact rfl)
      | (apply st_t; exact rfl; assumption)
      | (apply st_f; exact rfl; assumption)
      | (apply st_some; exact rfl)
      | refine st_ift ?_
      | refine st_iff ?_
      | exact rfl
set_option maxHeartbeats 4000000 in
theorem run125 {G : Told} (g124 : G 124 = F124) : ∀ ds rs, F125 ds = some rs → ∃ fuel, run G fuel T125 ds = some (0, rs) := by
  intro ds rs h
  obtain ⟨vs, ws, rfl, hp⟩ := on2_inv h
  replace h := hp
  clear hp
  split at h
  · rename_i hb
    simp only [Option.some.injEq] at h
    subst h
    refine ⟨0, ?_⟩
    rw [eq125]
    unfold S125
    have hn := len_vl (l := vs)
    have hm := len_vl (l := ws)
    by_cases hc : vs.length = ws.length
    · have hne : ((vs.length : Int) != (ws.length : Int)) = false := by simp [hc]
      by_cases hd : vs.length ≤ 256
      · have hgt : decide ((vs.length : Int) > 256) = false := by simp; omega
        rw [if_pos ⟨hc, hd⟩]
        have h1 := F124_vl (vs := vs) (ws := ws) (by omega) hb.1
        repeat' first
          | (apply st_call; exact g124; exact rfl; exact h1; exact rfl)
          | (apply st_some; exact hn)
          | (apply st_some; exact hm)
          | (apply st_callt; assumption; exact rfl; exact rfl; assumption)
          | (apply st_callf; assumption; exact rfl; exact rfl; assumption)
          | (apply st_call; assumption; exact rfl; exact rfl; exact rfl)
          | (apply st_wide; exact rfl; exact rfl)
          | (apply st_skip; exact rfl)
          | (apply st_t; exact rfl; exact rfl)
          | (apply st_f; exact rfl; exact rfl)
          | (apply st_t; exact rfl; assumption)
          | (apply st_f; exact rfl; assumption)
          | (apply st_some; exact rfl)
          | refine st_ift ?_
          | refine st_iff ?_
          | exact rfl
      · have hgt : decide ((vs.length : Int) > 256) = true := by simp; omega
        rw [if_neg (fun h => hd h.2)]
        repeat' first
          | (apply st_some; exact hn)
          | (apply st_some; exact hm)
          | (apply st_callt; assumption; exact rfl; exact rfl; assumption)
          | (apply st_callf; assumption; exact rfl; exact rfl; assumption)
          | (apply st_call; assumption; exact rfl; exact rfl; exact rfl)
          | (apply st_wide; exact rfl; exact rfl)
          | (apply st_skip; exact rfl)
          | (apply st_t; exact rfl; exact rfl)
          | (apply st_f; exact rfl; exact rfl)
          | (apply st_t; exact rfl; assumption)
          | (apply st_f; exact rfl; assumption)
          | (apply st_some; exact rfl)
          | refine st_ift ?_
          | refine st_iff ?_
          | exact rfl
    · have hne : ((vs.length : Int) != (ws.length : Int)) = true := by simp; omega
      rw [if_neg (fun h => hc h.1)]
      repeat' first
        | (apply st_some; exact hn)
        | (apply st_some; exact hm)
        | (apply st_callt; assumption; exact rfl; exact rfl; assumption)
        | (apply st_callf; assumption; exact rfl; exact rfl; assumption)
        | (apply st_call; assumption; exact rfl; exact rfl; exact rfl)
        | (apply st_wide; exact rfl; exact rfl)
        | (apply st_skip; exact rfl)
        | (apply st_t; exact rfl; exact rfl)
        | (apply st_f; exact rfl; exact rfl)
        | (apply st_t; exact rfl; assumption)
        | (apply st_f; exact rfl; assumption)
        | (apply st_some; exact rfl)
        | refine st_ift ?_
        | refine st_iff ?_
        | exact rfl
  · cases h
set_option maxHeartbeats 4000000 in
theorem run123 {G : Told} (g13 : G 13 = F13) (g31 : G 31 = F31) (g124 : G 124 = F124) (g126 : G 126 = F126) : ∀ ds rs, F123 ds = some rs → ∃ fuel, run G fuel T123 ds = some (0, rs) := by
  intro ds rs h
  obtain ⟨vs, ws, rfl, hp⟩ := on2_inv h
  replace h := hp
  clear hp
  split at h
  · rename_i hc
    obtain ⟨hc, hb⟩ := hc
    simp only [Option.some.injEq] at h
    subst h
    refine ⟨vs.length + 1, ?_⟩
    rw [eq123]
    unfold S123
    have hn := len_vl (l := vs)
    have h1 := F124_vl (vs := vs) (ws := ws) (by omega) hb
    have h2 := F124_vl (vs := ws) (ws := ws) (by omega) (by omega)
    have h3 : F126 [.flt (innerL vs ws), .flt (innerL ws ws)] = some [.flt (gainP (innerL vs ws) (innerL ws ws))] := rfl
    have e : withoutP vs ws = withoutL vs ws (gainP (innerL vs ws) (innerL ws ws)) := by unfold withoutP; rfl
    rw [e]
    generalize gainP (innerL vs ws) (innerL ws ws) = k at h3
    have hz : (withoutL vs ws k).length = vs.length := len_withoutL hc
    have hloop : iter (tbody 2 (S123L0 G (vl vs) (vl ws) [.flt k] (.int (vs.length : Int)))) (vs.length + 1) [.lst [], .int 0] = some (0, [vl (withoutL vs ws k), .int (vs.length : Int), .bool false]) := by
      have h1 := iter_upto (body := tbody 2 (S123L0 G (vl vs) (vl ws) [.flt k] (.int (vs.length : Int)))) (n := vs.length) (l := 0) (ds := [vl (withoutL vs ws k), .int (vs.length : Int), .bool false])
        (fun i => [vl ((withoutL vs ws k).take i), .int (i : Int)]) ?_ ?_
      · have e0 : vl [] = .lst [] := by unfold vl; rfl
        simpa [e0] using h1
      · intro i hi
        refine tb rfl ?_
        have h0 : decide ((i : Int) < (vs.length : Int)) = true := by simpa using hi
        have hx := idx_vl hi
        have hy := idx_vl (l := ws) (i := i) (by omega)
        have ha := add1n (i := i) (by omega)
        have hp := app_vl (l := (withoutL vs ws k).take i) (v := (withoutL vs ws k)[i]) (by simp; omega)
        rw [← take_step] at hp
        have hg : (withoutL vs ws k)[i] = lessV vs[i] (V3.scale ws[i] k) := by
          unfold withoutL
          simp
        rw [hg] at hp
        generalize vl ((withoutL vs ws k).take i) = l1 at hp
        generalize vl ((withoutL vs ws k).take (i + 1)) = l2 at hp
        have h31 : F31 [.flt ws[i].x, .flt ws[i].y, .flt ws[i].z, .flt k] = some [.flt (V3.scale ws[i] k).x, .flt (V3.scale ws[i] k).y, .flt (V3.scale ws[i] k).z] := rfl
        have h13 : F13 [.flt vs[i].x, .flt vs[i].y, .flt vs[i].z, .flt (V3.scale ws[i] k).x, .flt (V3.scale ws[i] k).y, .flt (V3.scale ws[i] k).z] = some [.flt (lessV vs[i] (V3.scale ws[i] k)).x, .flt (lessV vs[i] (V3.scale ws[i] k)).y, .flt (lessV vs[i] (V3.scale ws[i] k)).z] := rfl
        generalize V3.scale ws[i] k = s at h31 h13 hp
        generalize lessV vs[i] s = d at h13 hp
        unfold S123L0
        repeat' first
          | (apply st_call; exact g31; exact rfl; exact h31; exact rfl)
          | (apply st_call; exact g13; exact rfl; exact h13; exact rfl)
          | (apply st_some; exact hx)
          | (apply st_some; exact hy)
          | (apply st_some; exact ha)
          | (apply st_some; exact hp)
          | (apply st_callt; assumption; exact rfl; exact rfl; assumption)
          | (apply st_callf; assumption; exact rfl; exact rfl; assumption)
          | (apply st_call; assumption; exact rfl; exact rfl; exact rfl)
          | (apply st_wide; exact rfl; exact rfl)
          | (apply st_skip; exact rfl)
          | (apply st_t; exact rfl; exact rfl)
          | (apply st_f; exact rfl; exact rfl)
          | (apply st_t; exact rfl; assumption)
          | (apply st_f; exact rfl; assumption)
          | (apply st_some; exact rfl)
          | refine st_ift ?_
          | refine st_iff ?_
          | exact rfl
      · refine tb rfl ?_
        have h0 : decide ((vs.length : Int) < (vs.length : Int)) = false := by simp
        have e : (withoutL vs ws k).take vs.length = withoutL vs ws k := by rw [← hz]; exact List.take_length
        rw [e]
        unfold S123L0
        repeat' first
          | (apply st_callt; assumption; exact rfl; exact rfl; assumption)
          | (apply st_callf; assumption; exact rfl; exact rfl; assumption)
          | (apply st_call; assumption; exact rfl; exact rfl; exact rfl)
          | (apply st_wide; exact rfl; exact rfl)
          | (apply st_skip; exact rfl)
          | (apply st_t; exact rfl; exact rfl)
          | (apply st_f; exact rfl; exact rfl)
          | (apply st_t; exact rfl; assumption)
          | (apply st_f; exact rfl; assumption)
          | (apply st_some; exact rfl)
          | refine st_ift ?_
          | refine st_iff ?_
          | exact rfl
    repeat' first
      | (apply st_join; exact hloop; exact rfl)
      | (apply st_call; exact g124; exact rfl; exact h1; exact rfl)
      | (apply st_call; exact g124; exact rfl; exact h2; exact rfl)
      | (apply st_call; exact g126; exact rfl; exact h3; exact rfl)
      | (apply st_some; exact hn)
      | (apply st_callt; assumption; exact rfl; exact rfl; assumption)
      | (apply st_callf; assumption; exact rfl; exact rfl; assumption)
      | (apply st_call; assumption; exact rfl; exact rfl; exact rfl)
      | (apply st_wide; exact rfl; exact rfl)
      | (apply st_skip; exact rfl)
      | (apply st_t; exact rfl; exact rfl)
      | (apply st_f; exact rfl; exact rfl)
      | (apply st_t; exact rfl; assumption)
      | (apply st_f; exact rfl; assumption)
      | (apply st_some; exact rfl)
      | refine st_ift ?_
      | refine st_iff ?_
      | exact rfl
  · cases h
set_option maxHeartbeats 4000000 in
theorem run122s {G : Told} (g123 : G 123 = F123) : ∀ ds rs, F122 ds = some rs → ∃ fuel, run G fuel T122s ds = some (0, rs) := by
  intro ds rs h
  obtain ⟨vs, ws, rfl, hp⟩ := on2_inv h
  replace h := hp
  clear hp
  split at h
  · rename_i hb
    simp only [Option.some.injEq] at h
    subst h
    refine ⟨0, ?_⟩
    rw [eq122s]
    unfold S122s
    have e0 : vl [] = .lst [] := by unfold vl; rfl
    rw [e0]
    have hn := len_vl (l := vs)
    have hm := len_vl (l := ws)
    by_cases hc : vs.length = ws.length
    · have hne : ((vs.length : Int) != (ws.length : Int)) = false := by simp [hc]
      by_cases hd : vs.length ≤ 256
      · have hgt : decide ((vs.length : Int) > 256) = false := by simp; omega
        rw [if_pos ⟨hc, hd⟩]
        have h1 := F123_vl (vs := vs) (ws := ws) (by omega) hb.1
        repeat' first
          | (apply st_call; exact g123; exact rfl; exact h1; exact rfl)
          | (apply st_some; exact hn)
          | (apply st_some; exact hm)
          | (apply st_callt; assumption; exact rfl; exact rfl; assumption)
          | (apply st_callf; assumption; exact rfl; exact rfl; assumption)
          | (apply st_call; assumption; exact rfl; exact rfl; exact rfl)
          | (apply st_wide; exact rfl; exact rfl)
          | (apply st_skip; exact rfl)
          | (apply st_t; exact rfl; exact rfl)
          | (apply st_f; exact rfl; exact rfl)
          | (apply st_t; exact rfl; assumption)
          | (apply st_f; exact rfl; assumption)
          | (apply st_some; exact rfl)
          | refine st_ift ?_
          | refine st_iff ?_
          | exact rfl
      · have hgt : decide ((vs.length : Int) > 256) = true := by simp; omega
        rw [if_neg (fun h => hd h.2)]
        repeat' first
          | (apply st_some; exact hn)
          | (apply st_some; exact hm)
          | (apply st_callt; assumption; exact rfl; exact rfl; assumption)
          | (apply st_callf; assumption; exact rfl; exact rfl; assumption)
          | (apply st_call; assumption; exact rfl; exact rfl; exact rfl)
          | (apply st_wide; exact rfl; exact rfl)
          | (apply st_skip; exact rfl)
          | (apply st_t; exact rfl; exact rfl)
          | (apply st_f; exact rfl; exact rfl)
          | (apply st_t; exact rfl; assumption)
          | (apply st_f; exact rfl; assumption)
          | (apply st_some; exact rfl)
          | refine st_ift ?_
          | refine st_iff ?_
          | exact rfl
    · have hne : ((vs.length : Int) != (ws.length : Int)) = true := by simp; omega
      rw [if_neg (fun h => hc h.1)]
      repeat' first
        | (apply st_some; exact hn)
        | (apply st_some; exact hm)
        | (apply st_callt; assumption; exact rfl; exact rfl; assumption)
        | (apply st_callf; assumption; exact rfl; exact rfl; assumption)
        | (apply st_call; assumption; exact rfl; exact rfl; exact rfl)
        | (apply st_wide; exact rfl; exact rfl)
        | (apply st_skip; exact rfl)
        | (apply st_t; exact rfl; exact rfl)
        | (apply st_f; exact rfl; exact rfl)
        | (apply st_t; exact rfl; assumption)
        | (apply st_f; exact rfl; assumption)
        | (apply st_some; exact rfl)
        | refine st_ift ?_
        | refine st_iff ?_
        | exact rfl
  · cases h
set_option maxHeartbeats 4000000 in
theorem run122 {G : Told} (g13 : G 13 = F13) (g31 : G 31 = F31) (g124 : G 124 = F124) (g125 : G 125 = F125) : ∀ ds rs, F122 ds = some rs → ∃ fuel, run G fuel T122 ds = some (0, rs) := by
  intro ds rs h
  obtain ⟨vs, ws, rfl, hp⟩ := on2_inv h
  replace h := hp
  clear hp
  split at h
  · rename_i hb
    simp only [Option.some.injEq] at h
    subst h
    refine ⟨vs.length + 1, ?_⟩
    rw [eq122]
    unfold S122
    have e0 : vl [] = .lst [] := by unfold vl; rfl
    rw [e0]
    have h5 := F125_vl hb.1 hb.2
    have hn := len_vl (l := vs)
    by_cases hh : vs.length = ws.length ∧ vs.length ≤ 256
    · rw [if_pos hh] at h5 ⊢
      have hc := hh.1
      have h2 := F124_vl (vs := ws) (ws := ws) (by omega) (by omega)
      have e : withoutP vs ws = withoutL vs ws (gainP (innerL vs ws) (innerL ws ws)) := by unfold withoutP; rfl
      rw [e]
      have hk : ∃ k, gainP (innerL vs ws) (innerL ws ws) = k := ⟨_, rfl⟩
      obtain ⟨k, hk⟩ := hk
      rw [hk]
      unfold gainP at hk
      generalize innerL vs ws = p at hk h5
      generalize innerL ws ws = q at hk h2
      have hz : (withoutL vs ws k).length = vs.length := len_withoutL hc
      have hloop : iter (tbody 2 (S122L0 G (vl vs) (vl ws) [.flt k] (.int (vs.length : Int)))) (vs.length + 1) [.lst [], .int 0] = some (0, [vl (withoutL vs ws k), .int (vs.length : Int), .bool false]) := by
        have h1 := iter_upto (body := tbody 2 (S122L0 G (vl vs) (vl ws) [.flt k] (.int (vs.length : Int)))) (n := vs.length) (l := 0) (ds := [vl (withoutL vs ws k), .int (vs.length : Int), .bool false])
          (fun i => [vl ((withoutL vs ws k).take i), .int (i : Int)]) ?_ ?_
        · have e0 : vl [] = .lst [] := by unfold vl; rfl
          simpa [e0] using h1
        · intro i hi
          refine tb rfl ?_
          have h0 : decide ((i : Int) < (vs.length : Int)) = true := by simpa using hi
          have hx := idx_vl hi
          have hy := idx_vl (l := ws) (i := i) (by omega)
          have ha := add1n (i := i) (by omega)
          have hp := app_vl (l := (withoutL vs ws k).take i) (v := (withoutL vs ws k)[i]) (by simp; omega)
          rw [← take_step] at hp
          have hg : (withoutL vs ws k)[i] = lessV vs[i] (V3.scale ws[i] k) := by
            unfold withoutL
            simp
          rw [hg] at hp
          generalize vl ((withoutL vs ws k).take i) = l1 at hp
          generalize vl ((withoutL vs ws k).take (i + 1)) = l2 at hp
          have h31 : F31 [.flt ws[i].x, .flt ws[i].y, .flt ws[i].z, .flt k] = some [.flt (V3.scale ws[i] k).x, .flt (V3.scale ws[i] k).y, .flt (V3.scale ws[i] k).z] := rfl
          have h13 : F13 [.flt vs[i].x, .flt vs[i].y, .flt vs[i].z, .flt (V3.scale ws[i] k).x, .flt (V3.scale ws[i] k).y, .flt (V3.scale ws[i] k).z] = some [.flt (lessV vs[i] (V3.scale ws[i] k)).x, .flt (lessV vs[i] (V3.scale ws[i] k)).y, .flt (lessV vs[i] (V3.scale ws[i] k)).z] := rfl
          generalize V3.scale ws[i] k = s at h31 h13 hp
          generalize lessV vs[i] s = d at h13 hp
          unfold S122L0
          repeat' first
            | (apply st_call; exact g31; exact rfl; exact h31; exact rfl)
            | (apply st_call; exact g13; exact rfl; exact h13; exact rfl)
            | (apply st_some; exact hx)
            | (apply st_some; exact hy)
            | (apply st_some; exact ha)
            | (apply st_some; exact hp)
            | (apply st_callt; assumption; exact rfl; exact rfl; assumption)
            | (apply st_callf; assumption; exact rfl; exact rfl; assumption)
            | (apply st_call; assumption; exact rfl; exact rfl; exact rfl)
            | (apply st_wide; exact rfl; exact rfl)
            | (apply st_skip; exact rfl)
            | (apply st_t; exact rfl; exact rfl)
            | (apply st_f; exact rfl; exact rfl)
            | (apply st_t; exact rfl; assumption)
            | (apply st_f; exact rfl; assumption)
            | (apply st_some; exact rfl)
            | refine st_ift ?_
            | refine st_iff ?_
            | exact rfl
        · refine tb rfl ?_
          have h0 : decide ((vs.length : Int) < (vs.length : Int)) = false := by simp
          have e : (withoutL vs ws k).take vs.length = withoutL vs ws k := by rw [← hz]; exact List.take_length
          rw [e]
          unfold S122L0
          repeat' first
            | (apply st_callt; assumption; exact rfl; exact rfl; assumption)
            | (apply st_callf; assumption; exact rfl; exact rfl; assumption)
            | (apply st_call; assumption; exact rfl; exact rfl; exact rfl)
            | (apply st_wide; exact rfl; exact rfl)
            | (apply st_skip; exact rfl)
            | (apply st_t; exact rfl; exact rfl)
            | (apply st_f; exact rfl; exact rfl)
            | (apply st_t; exact rfl; assumption)
            | (apply st_f; exact rfl; assumption)
            | (apply st_some; exact rfl)
            | refine st_ift ?_
            | refine st_iff ?_
            | exact rfl
      cases hg : fgt .f32 q 0
      · rw [hg] at hk
        have hk : 0 = k := hk
        subst hk
        repeat' first
          | (apply st_join; exact hloop; exact rfl)
          | (with_reducible refine st_join (ds := [.flt 0]) ?_ ?_ ?_)
          | (apply st_call; exact g125; exact rfl; exact h5; exact rfl)
          | (apply st_call; exact g124; exact rfl; exact h2; exact rfl)
          | (apply st_some; exact hn)
          | (apply st_callt; assumption; exact rfl; exact rfl; assumption)
          | (apply st_callf; assumption; exact rfl; exact rfl; assumption)
          | (apply st_call; assumption; exact rfl; exact rfl; exact rfl)
          | (apply st_wide; exact rfl; exact rfl)
          | (apply st_skip; exact rfl)
          | (apply st_t; exact rfl; exact rfl)
          | (apply st_f; exact rfl; exact rfl)
          | (apply st_t; exact rfl; assumption)
          | (apply st_f; exact rfl; assumption)
          | (apply st_some; exact rfl)
          | refine st_ift ?_
          | refine st_iff ?_
          | exact rfl
      · rw [hg, if_pos rfl] at hk
        subst hk
        repeat' first
          | (apply st_join; exact hloop; exact rfl)
          | (with_reducible refine st_join (ds := [.flt (fdiv .f32 p q)]) ?_ ?_ ?_)
          | (apply st_call; exact g125; exact rfl; exact h5; exact rfl)
          | (apply st_call; exact g124; exact rfl; exact h2; exact rfl)
          | (apply st_some; exact hn)
          | (apply st_callt; assumption; exact rfl; exact rfl; assumption)
          | (apply st_callf; assumption; exact rfl; exact rfl; assumption)
          | (apply st_call; assumption; exact rfl; exact rfl; exact rfl)
          | (apply st_wide; exact rfl; exact rfl)
          | (apply st_skip; exact rfl)
          | (apply st_t; exact rfl; exact rfl)
          | (apply st_f; exact rfl; exact rfl)
          | (apply st_t; exact rfl; assumption)
          | (apply st_f; exact rfl; assumption)
          | (apply st_some; exact rfl)
          | refine st_ift ?_
          | refine st_iff ?_
          | exact rfl
    · rw [if_neg hh] at h5 ⊢
      repeat' first
        | (apply st_call; exact g125; exact rfl; exact h5; exact rfl)
        | (apply st_callt; assumption; exact rfl; exact rfl; assumption)
        | (apply st_callf; assumption; exact rfl; exact rfl; assumption)
        | (apply st_call; assumption; exact rfl; exact rfl; exact rfl)
        | (apply st_wide; exact rfl; exact rfl)
        | (apply st_skip; exact rfl)
        | (apply st_t; exact rfl; exact rfl)
        | (apply st_f; exact rfl; exact rfl)
        | (apply st_t; exact rfl; assumption)
        | (apply st_f; exact rfl; assumption)
        | (apply st_some; exact rfl)
        | refine st_ift ?_
        | refine st_iff ?_
        | exact rfl
  · cases h
set_option maxHeartbeats 4000000 in
theorem run130 {G : Told} (g120 : G 120 = F120) (g121 : G 121 = F121) (g122 : G 122 = F122) (g127 : G 127 = F127) (g128 : G 128 = F128) (g129 : G 129 = F129) : ∀ ds rs, F130 ds = some rs → ∃ fuel, run G fuel T130 ds = some (0, rs) := by
  intro ds rs h
  obtain ⟨vs, ws, rfl, hp⟩ := on2_inv h
  replace h := hp
  clear hp
  split at h
  · rename_i hb
    obtain ⟨hb1, hb2⟩ := hb
    simp only [Option.some.injEq] at h
    subst h
    refine ⟨0, ?_⟩
    rw [eq130]
    unfold S130
    have z1 : F120 [vl vs, .int 1048576] = some [.int (if (1048576 : Int) - vs.length < 0 then -1 else 1048576 - vs.length)] := by
      unfold vl
      simp only [F120, List.length_map]
      rw [if_pos ⟨by omega, by omega, hb1⟩]
    by_cases c1 : (1048576 : Int) - vs.length < 0
    · rw [if_pos c1] at z1
      repeat' first
        | (apply st_call; exact g120; exact rfl; exact z1; exact rfl)
        | (apply st_callt; assumption; exact rfl; exact rfl; assumption)
        | (apply st_callf; assumption; exact rfl; exact rfl; assumption)
        | (apply st_call; assumption; exact rfl; exact rfl; exact rfl)
        | (apply st_wide; exact rfl; exact rfl)
        | (apply st_skip; exact rfl)
        | (apply st_t; exact rfl; exact rfl)
        | (apply st_f; exact rfl; exact rfl)
        | (apply st_t; exact rfl; assumption)
        | (apply st_f; exact rfl; assumption)
        | (apply st_some; exact rfl)
        | refine st_ift ?_
        | refine st_iff ?_
        | exact rfl
    rw [if_neg c1] at z1
    have d1 : decide ((1048576 : Int) - vs.length < 0) = false := by simpa using c1
    have z2 : F120 [vl ws, .int (1048576 - vs.length)] = some [.int (if (1048576 : Int) - vs.length - ws.length < 0 then -1 else 1048576 - vs.length - ws.length)] := by
      unfold vl
      simp only [F120, List.length_map]
      rw [if_pos ⟨by omega, by omega, hb2⟩]
    by_cases c2 : (1048576 : Int) - vs.length - ws.length < 0
    · rw [if_pos c2] at z2
      repeat' first
        | (apply st_call; exact g120; exact rfl; exact z1; exact rfl)
        | (apply st_call; exact g120; exact rfl; exact z2; exact rfl)
        | (apply st_callt; assumption; exact rfl; exact rfl; assumption)
        | (apply st_callf; assumption; exact rfl; exact rfl; assumption)
        | (apply st_call; assumption; exact rfl; exact rfl; exact rfl)
        | (apply st_wide; exact rfl; exact rfl)
        | (apply st_skip; exact rfl)
        | (apply st_t; exact rfl; exact rfl)
        | (apply st_f; exact rfl; exact rfl)
        | (apply st_t; exact rfl; assumption)
        | (apply st_f; exact rfl; assumption)
        | (apply st_some; exact rfl)
        | refine st_ift ?_
        | refine st_iff ?_
        | exact rfl
    rw [if_neg c2] at z2
    have d2 : decide ((1048576 : Int) - vs.length - ws.length < 0) = false := by simpa using c2
    have hr : ∃ us b, F122 [vl vs, vl ws] = some [vl us, .bool b] ∧ us.length ≤ 1048576 := by
      rw [F122_vl (by omega) (by omega)]
      split
      · rename_i hh
        exact ⟨_, _, rfl, by unfold withoutP; rw [len_withoutL hh.1]; omega⟩
      · exact ⟨_, _, rfl, by simp⟩
    obtain ⟨us, b, hr, hu⟩ := hr
    have t1 := F121_vl (vs := vs) (by omega)
    have t2 := F121_vl (vs := ws) (by omega)
    have q1 := F127_vl (vs := vs) (by omega)
    have q2 := F127_vl (vs := ws) (by omega)
    have q3 := F127_vl (vs := us) (by omega)
    have m1 := F128_vl (vs := vs) (m := 1) (by omega) (by omega) (by omega)
    have m2 := F128_vl (vs := ws) (m := 1 + 3 * vs.length) (by omega) (by omega) (by omega)
    have m3 := F128_vl (vs := us) (m := 1) (by omega) (by omega) (by omega)
    have n3 := F129_vl (n := us.length) (m := 1) (by omega) (by omega) (by omega)
    have d3 : decide ((1 : Int) + 3 * vs.length + 3 * ws.length < 0) = false := by simp; omega
    have d4 : decide ((1 : Int) + 3 * us.length < 0) = false := by simp; omega
    have d5 : ((1 : Int) + 3 * us.length != 1 + 3 * us.length) = false := by simp
    cases b
    · repeat' first
        | (apply st_call; exact g120; exact rfl; exact z1; exact rfl)
        | (apply st_call; exact g120; exact rfl; exact z2; exact rfl)
        | (apply st_call; exact g122; exact rfl; exact hr; exact rfl)
        | (apply st_call; exact g121; exact rfl; exact t1; exact rfl)
        | (apply st_call; exact g121; exact rfl; exact t2; exact rfl)
        | (apply st_call; exact g127; exact rfl; exact q1; exact rfl)
        | (apply st_call; exact g127; exact rfl; exact q2; exact rfl)
        | (apply st_call; exact g127; exact rfl; exact q3; exact rfl)
        | (apply st_call; exact g128; exact rfl; exact m1; exact rfl)
        | (apply st_call; exact g128; exact rfl; exact m2; exact rfl)
        | (apply st_call; exact g128; exact rfl; exact m3; exact rfl)
        | (apply st_call; exact g129; exact rfl; exact n3; exact rfl)
        | (apply st_callt; assumption; exact rfl; exact rfl; assumption)
        | (apply st_callf; assumption; exact rfl; exact rfl; assumption)
        | (apply st_call; assumption; exact rfl; exact rfl; exact rfl)
        | (apply st_wide; exact rfl; exact rfl)
        | (apply st_skip; exact rfl)
        | (apply st_t; exact rfl; exact rfl)
        | (apply st_f; exact rfl; exact rfl)
        | (apply st_t; exact rfl; assumption)
        | (apply st_f; exact rfl; assumption)
        | (apply st_some; exact rfl)
        | refine st_ift ?_
        | refine st_iff ?_
        | exact rfl
    · repeat' first
        | (apply st_call; exact g120; exact rfl; exact z1; exact rfl)
        | (apply st_call; exact g120; exact rfl; exact z2; exact rfl)
        | (apply st_call; exact g122; exact rfl; exact hr; exact rfl)
        | (apply st_call; exact g121; exact rfl; exact t1; exact rfl)
        | (apply st_call; exact g121; exact rfl; exact t2; exact rfl)
        | (apply st_call; exact g127; exact rfl; exact q1; exact rfl)
        | (apply st_call; exact g127; exact rfl; exact q2; exact rfl)
        | (apply st_call; exact g127; exact rfl; exact q3; exact rfl)
        | (apply st_call; exact g128; exact rfl; exact m1; exact rfl)
        | (apply st_call; exact g128; exact rfl; exact m2; exact rfl)
        | (apply st_call; exact g128; exact rfl; exact m3; exact rfl)
        | (apply st_call; exact g129; exact rfl; exact n3; exact rfl)
        | (apply st_callt; assumption; exact rfl; exact rfl; assumption)
        | (apply st_callf; assumption; exact rfl; exact rfl; assumption)
        | (apply st_call; assumption; exact rfl; exact rfl; exact rfl)
        | (apply st_wide; exact rfl; exact rfl)
        | (apply st_skip; exact rfl)
        | (apply st_t; exact rfl; exact rfl)
        | (apply st_f; exact rfl; exact rfl)
        | (apply st_t; exact rfl; assumption)
        | (apply st_f; exact rfl; assumption)
        | (apply st_some; exact rfl)
        | refine st_ift ?_
        | refine st_iff ?_
        | exact rfl
  · cases h

end Vs
