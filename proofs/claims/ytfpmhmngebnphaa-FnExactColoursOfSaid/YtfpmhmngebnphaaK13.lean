/-
  Marks in bodies; the law of ColoursOf.
-/
import Derived.Test.YtfpmhmngebnphaaK12
namespace Vs
open Go

def marksS (m : Int) (n : Nat) : List Sp := (List.range n).map fun (i : Nat) => ⟨m + 4 * (i : Int), m + 4 * (i : Int) + 1, i2f .f32 (m + 4 * (i : Int) + 2), i2f .f32 (m + 4 * (i : Int) + 3)⟩
theorem marksS_length (m : Int) (n : Nat) : (marksS m n).length = n := by simp [marksS]
theorem marksS_get {m : Int} {n i : Nat} (h : i < (marksS m n).length) : (marksS m n)[i] = ⟨m + 4 * (i : Int), m + 4 * (i : Int) + 1, i2f .f32 (m + 4 * (i : Int) + 2), i2f .f32 (m + 4 * (i : Int) + 3)⟩ := by simp [marksS]
def marksW (m : Int) (n : Nat) : List Nat := (List.range n).map fun (i : Nat) => i2f .f32 (m + (i : Int))
theorem marksW_length (m : Int) (n : Nat) : (marksW m n).length = n := by simp [marksW]
theorem marksW_get {m : Int} {n i : Nat} (h : i < (marksW m n).length) : (marksW m n)[i] = i2f .f32 (m + (i : Int)) := by simp [marksW]
noncomputable def F191 : List D → Option (List D)
  | [c, .int m] => (dS c).bind fun ss => if ss.length ≤ 1048576 ∧ 0 ≤ m ∧ m ≤ 1099511627776 then some [.int (m + 4 * ss.length), sl (marksS m ss.length)] else none
  | _ => none
noncomputable def F192 : List D → Option (List D)
  | [c, .int m] => (dW c).bind fun ws => if ws.length ≤ 1048576 ∧ 0 ≤ m ∧ m ≤ 1099511627776 then some [.int (m + ws.length), fl (marksW m ws.length)] else none
  | _ => none
/-- The count behind the marks of a body. -/
def mkB (B : Bd) : Int := 1 + 3 * B.vs.length + totL B.ts + 4 * B.ss.length + B.ws.length
open Classical in
noncomputable def F193 (ds : List D) : Option (List D) := (dB ds).bind fun p => if p.2 = [.int 1] ∧ szB p.1 ≤ 1048576 then
  some [.int (mkB p.1), vl (marksV 1 p.1.vs.length), marksT (1 + 3 * p.1.vs.length) p.1.ts, sl (marksS (1 + 3 * p.1.vs.length + totL p.1.ts) p.1.ss.length), fl (marksW (1 + 3 * p.1.vs.length + totL p.1.ts + 4 * p.1.ss.length) p.1.ws.length)] else none
theorem F193_m {B : Bd} (h : szB B ≤ 1048576) : ∃ a b c d, F193 (bd B ++ [.int 1]) = some [.int (mkB B), a, b, c, d] := by
  have e : F193 (bd B ++ [.int 1]) = some [.int (mkB B), vl (marksV 1 B.vs.length), marksT (1 + 3 * B.vs.length) B.ts, sl (marksS (1 + 3 * B.vs.length + totL B.ts) B.ss.length), fl (marksW (1 + 3 * B.vs.length + totL B.ts + 4 * B.ss.length) B.ws.length)] := by
    simp only [F193, dB_bd, Option.bind_some]
    exact if_pos ⟨trivial, h⟩
  exact ⟨_, _, _, _, e⟩
open Classical in
noncomputable def F208 (ds : List D) : Option (List D) := (dB ds).bind fun p => if p.2 = [] ∧ lawB p.1 then some [.bool true] else none

def T191 : T :=
(.join 6
  (.loop [(.v 0), (.v 1), (.c (.int 0))]
    (.op none .len [(.v 2)] <|
    (.op none (.icm .lss) [(.v 4), (.v 5)] <|
    (.ite (.v 6)
      (.op none .idx [(.v 2), (.v 4)] <|
      (.op none .idx [(.v 2), (.v 4)] <|
      (.op none (.proj 0) [(.v 8)] <|
      (.op none (.proj 1) [(.v 8)] <|
      (.op none (.proj 2) [(.v 8)] <|
      (.op none (.proj 3) [(.v 8)] <|
      (.op none .mkagg [(.v 3), (.v 10), (.v 11), (.v 12)] <|
      (.op none .set [(.v 2), (.v 4), (.v 13)] <|
      (.op none (.iar .add .i64) [(.v 3), (.c (.int 1))] <|
      (.op none .idx [(.v 14), (.v 4)] <|
      (.op none .idx [(.v 14), (.v 4)] <|
      (.op none (.proj 0) [(.v 17)] <|
      (.op none (.proj 1) [(.v 17)] <|
      (.op none (.proj 2) [(.v 17)] <|
      (.op none (.proj 3) [(.v 17)] <|
      (.op none .mkagg [(.v 18), (.v 15), (.v 20), (.v 21)] <|
      (.op none .set [(.v 14), (.v 4), (.v 22)] <|
      (.op none (.iar .add .i64) [(.v 15), (.c (.int 1))] <|
      (.op none (.i2f .f32) [(.v 24)] <|
      (.op none .idx [(.v 23), (.v 4)] <|
      (.op none .idx [(.v 23), (.v 4)] <|
      (.op none (.proj 0) [(.v 27)] <|
      (.op none (.proj 1) [(.v 27)] <|
      (.op none (.proj 2) [(.v 27)] <|
      (.op none (.proj 3) [(.v 27)] <|
      (.op none .mkagg [(.v 28), (.v 29), (.v 25), (.v 31)] <|
      (.op none .set [(.v 23), (.v 4), (.v 32)] <|
      (.op none (.iar .add .i64) [(.v 24), (.c (.int 1))] <|
      (.op none (.i2f .f32) [(.v 34)] <|
      (.op none .idx [(.v 33), (.v 4)] <|
      (.op none .idx [(.v 33), (.v 4)] <|
      (.op none (.proj 0) [(.v 37)] <|
      (.op none (.proj 1) [(.v 37)] <|
      (.op none (.proj 2) [(.v 37)] <|
      (.op none (.proj 3) [(.v 37)] <|
      (.op none .mkagg [(.v 38), (.v 39), (.v 40), (.v 35)] <|
      (.op none .set [(.v 33), (.v 4), (.v 42)] <|
      (.op none (.iar .add .i64) [(.v 34), (.c (.int 1))] <|
      (.op none (.iar .add .i64) [(.v 4), (.c (.int 1))] <|
      (.out 0 [(.v 43), (.v 44), (.v 45)]))))))))))))))))))))))))))))))))))))))))
      (.out 1 [(.v 2), (.v 3), (.v 4), (.v 4), (.v 5), (.v 6)])))))
(.out 0 [(.v 3), (.v 2)]))
def S191L0 (_G : Told) : List D → Option (Nat × List D) := fun e2 =>
      (gev none .len [(e2.getD 0 .undef)]).bind fun x5 =>
      (gev none (.icm .lss) [(e2.getD 2 .undef), x5]).bind fun x6 =>
      tif x6 (
        (gev none .idx [(e2.getD 0 .undef), (e2.getD 2 .undef)]).bind fun _x7 =>
        (gev none .idx [(e2.getD 0 .undef), (e2.getD 2 .undef)]).bind fun x8 =>
        (gev none (.proj 0) [x8]).bind fun _x9 =>
        (gev none (.proj 1) [x8]).bind fun x10 =>
        (gev none (.proj 2) [x8]).bind fun x11 =>
        (gev none (.proj 3) [x8]).bind fun x12 =>
        (gev none .mkagg [(e2.getD 1 .undef), x10, x11, x12]).bind fun x13 =>
        (gev none .set [(e2.getD 0 .undef), (e2.getD 2 .undef), x13]).bind fun x14 =>
        (gev none (.iar .add .i64) [(e2.getD 1 .undef), (.int 1)]).bind fun x15 =>
        (gev none .idx [x14, (e2.getD 2 .undef)]).bind fun _x16 =>
        (gev none .idx [x14, (e2.getD 2 .undef)]).bind fun x17 =>
        (gev none (.proj 0) [x17]).bind fun x18 =>
        (gev none (.proj 1) [x17]).bind fun _x19 =>
        (gev none (.proj 2) [x17]).bind fun x20 =>
        (gev none (.proj 3) [x17]).bind fun x21 =>
        (gev none .mkagg [x18, x15, x20, x21]).bind fun x22 =>
        (gev none .set [x14, (e2.getD 2 .undef), x22]).bind fun x23 =>
        (gev none (.iar .add .i64) [x15, (.int 1)]).bind fun x24 =>
        (gev none (.i2f .f32) [x24]).bind fun x25 =>
        (gev none .idx [x23, (e2.getD 2 .undef)]).bind fun _x26 =>
        (gev none .idx [x23, (e2.getD 2 .undef)]).bind fun x27 =>
        (gev none (.proj 0) [x27]).bind fun x28 =>
        (gev none (.proj 1) [x27]).bind fun x29 =>
        (gev none (.proj 2) [x27]).bind fun _x30 =>
        (gev none (.proj 3) [x27]).bind fun x31 =>
        (gev none .mkagg [x28, x29, x25, x31]).bind fun x32 =>
        (gev none .set [x23, (e2.getD 2 .undef), x32]).bind fun x33 =>
        (gev none (.iar .add .i64) [x24, (.int 1)]).bind fun x34 =>
        (gev none (.i2f .f32) [x34]).bind fun x35 =>
        (gev none .idx [x33, (e2.getD 2 .undef)]).bind fun _x36 =>
        (gev none .idx [x33, (e2.getD 2 .undef)]).bind fun x37 =>
        (gev none (.proj 0) [x37]).bind fun x38 =>
        (gev none (.proj 1) [x37]).bind fun x39 =>
        (gev none (.proj 2) [x37]).bind fun x40 =>
        (gev none (.proj 3) [x37]).bind fun _x41 =>
        (gev none .mkagg [x38, x39, x40, x35]).bind fun x42 =>
        (gev none .set [x33, (e2.getD 2 .undef), x42]).bind fun x43 =>
        (gev none (.iar .add .i64) [x34, (.int 1)]).bind fun x44 =>
        (gev none (.iar .add .i64) [(e2.getD 2 .undef), (.int 1)]).bind fun x45 =>
        some (0, [x43, x44, x45])) (
        some (1, [(e2.getD 0 .undef), (e2.getD 1 .undef), (e2.getD 2 .undef), (e2.getD 2 .undef), x5, x6]))
def S191 (G : Told) (fuel : Nat) (x0 x1 : D) : Option (Nat × List D) :=
  tjoin 6 (
    iter (tbody 3 (S191L0 G )) fuel [x0, x1, (.int 0)]) fun e2 =>
  some (0, [(e2.getD 1 .undef), (e2.getD 0 .undef)])
theorem eq191 {G : Told} {fuel : Nat} (x0 x1 : D) : run G fuel T191 [x0, x1] = S191 G fuel x0 x1 := by
  rw [run_eq]; kernel_rfl

def T192 : T :=
(.join 6
  (.loop [(.v 0), (.v 1), (.c (.int 0))]
    (.op none .len [(.v 2)] <|
    (.op none (.icm .lss) [(.v 4), (.v 5)] <|
    (.ite (.v 6)
      (.op none (.i2f .f32) [(.v 3)] <|
      (.op none .idx [(.v 2), (.v 4)] <|
      (.op none .set [(.v 2), (.v 4), (.v 7)] <|
      (.op none (.iar .add .i64) [(.v 3), (.c (.int 1))] <|
      (.op none (.iar .add .i64) [(.v 4), (.c (.int 1))] <|
      (.out 0 [(.v 9), (.v 10), (.v 11)]))))))
      (.out 1 [(.v 2), (.v 3), (.v 4), (.v 4), (.v 5), (.v 6)])))))
(.out 0 [(.v 3), (.v 2)]))
def S192L0 (_G : Told) : List D → Option (Nat × List D) := fun e2 =>
      (gev none .len [(e2.getD 0 .undef)]).bind fun x5 =>
      (gev none (.icm .lss) [(e2.getD 2 .undef), x5]).bind fun x6 =>
      tif x6 (
        (gev none (.i2f .f32) [(e2.getD 1 .undef)]).bind fun x7 =>
        (gev none .idx [(e2.getD 0 .undef), (e2.getD 2 .undef)]).bind fun _x8 =>
        (gev none .set [(e2.getD 0 .undef), (e2.getD 2 .undef), x7]).bind fun x9 =>
        (gev none (.iar .add .i64) [(e2.getD 1 .undef), (.int 1)]).bind fun x10 =>
        (gev none (.iar .add .i64) [(e2.getD 2 .undef), (.int 1)]).bind fun x11 =>
        some (0, [x9, x10, x11])) (
        some (1, [(e2.getD 0 .undef), (e2.getD 1 .undef), (e2.getD 2 .undef), (e2.getD 2 .undef), x5, x6]))
def S192 (G : Told) (fuel : Nat) (x0 x1 : D) : Option (Nat × List D) :=
  tjoin 6 (
    iter (tbody 3 (S192L0 G )) fuel [x0, x1, (.int 0)]) fun e2 =>
  some (0, [(e2.getD 1 .undef), (e2.getD 0 .undef)])
theorem eq192 {G : Told} {fuel : Nat} (x0 x1 : D) : run G fuel T192 [x0, x1] = S192 G fuel x0 x1 := by
  rw [run_eq]; kernel_rfl

def T193 : T :=
(.call none 147 [(.v 0), (.v 1), (.v 9)] 3 <|
(.call none 191 [(.v 2), (.v 10)] 2 <|
(.call none 192 [(.v 5), (.v 13)] 2 <|
(.out 0 [(.v 15), (.v 11), (.v 12), (.v 14), (.v 16)]))))
def S193 (G : Told) (_fuel : Nat) (x0 x1 x2 _x3 _x4 x5 _x6 _x7 _x8 x9 : D) : Option (Nat × List D) :=
  (gcall G none 147 [x0, x1, x9] 3).bind fun e10 =>
  (gcall G none 191 [x2, (e10.getD 0 .undef)] 2).bind fun e13 =>
  (gcall G none 192 [x5, (e13.getD 0 .undef)] 2).bind fun e15 =>
  some (0, [(e15.getD 0 .undef), (e10.getD 1 .undef), (e10.getD 2 .undef), (e13.getD 1 .undef), (e15.getD 1 .undef)])
theorem eq193 {G : Told} {fuel : Nat} (x0 x1 x2 x3 x4 x5 x6 x7 x8 x9 : D) : run G fuel T193 [x0, x1, x2, x3, x4, x5, x6, x7, x8, x9] = S193 G fuel x0 x1 x2 x3 x4 x5 x6 x7 x8 x9 := by
  rw [run_eq]; kernel_rfl

def T208 : T :=
(.call none 182 [(.v 0), (.v 1), (.v 2), (.v 3), (.v 4), (.v 5), (.v 6), (.v 7), (.v 8), (.c (.int 1048576))] 1 <|
(.op none (.icm .lss) [(.v 9), (.c (.int 0))] <|
(.ite (.v 10)
  (.out 0 [(.c (.bool true))])
  (.call none 186 [(.v 0), (.v 1), (.v 2), (.v 3), (.v 4), (.v 5), (.v 6), (.v 7), (.v 8)] 9 <|
  (.call none 207 [(.v 11), (.v 12), (.v 13), (.v 14), (.v 15), (.v 16), (.v 17), (.v 18), (.v 19)] 2 <|
  (.call none 186 [(.v 0), (.v 1), (.v 2), (.v 3), (.v 4), (.v 5), (.v 6), (.v 7), (.v 8)] 9 <|
  (.call none 207 [(.v 22), (.v 23), (.v 24), (.v 25), (.v 26), (.v 27), (.v 28), (.v 29), (.v 30)] 2 <|
  (.call none 100 [(.v 31), (.v 20)] 1 <|
  (.op none .bnot [(.v 33)] <|
  (.op (some ((.v 34), false)) .id [(.v 32)] <|
  (.op (some ((.v 34), false)) .id [(.v 21)] <|
  (.op (some ((.v 34), false)) .bne [(.v 35), (.v 36)] <|
  (.op none .pick [(.v 34), (.c (.bool true)), (.v 37)] <|
  (.ite (.v 38)
    (.out 0 [(.c (.bool false))])
    (.call none 186 [(.v 0), (.v 1), (.v 2), (.v 3), (.v 4), (.v 5), (.v 6), (.v 7), (.v 8)] 9 <|
    (.call none 190 [(.v 22), (.v 23), (.v 24), (.v 25), (.v 26), (.v 27), (.v 28), (.v 29), (.v 30), (.v 39), (.v 40), (.v 41), (.v 42), (.v 43), (.v 44), (.v 45), (.v 46), (.v 47)] 1 <|
    (.op none .bnot [(.v 48)] <|
    (.ite (.v 49)
      (.out 0 [(.c (.bool false))])
      (.call none 193 [(.v 22), (.v 23), (.v 24), (.v 25), (.v 26), (.v 27), (.v 28), (.v 29), (.v 30), (.c (.int 1))] 5 <|
      (.op none (.icm .lss) [(.v 50), (.c (.int 0))] <|
      (.call (some ((.v 55), false)) 100 [(.v 31), (.v 20)] 1 <|
      (.op (some ((.v 55), false)) .bnot [(.v 56)] <|
      (.op none .pick [(.v 55), (.c (.bool true)), (.v 57)] <|
      (.op (some ((.v 58), false)) .id [(.v 32)] <|
      (.op (some ((.v 58), false)) .id [(.v 21)] <|
      (.op (some ((.v 58), false)) .bne [(.v 59), (.v 60)] <|
      (.op none .pick [(.v 58), (.c (.bool true)), (.v 61)] <|
      (.ite (.v 62)
        (.out 0 [(.c (.bool false))])
        (.call none 102 [(.v 31), (.c (.int 1))] 2 <|
        (.call none 104 [(.v 64), (.c (.int 1))] 1 <|
        (.op none (.icm .lss) [(.v 65), (.c (.int 0))] <|
        (.ite (.v 66)
          (.out 0 [(.c (.bool false))])
          (.op none (.icm .neq) [(.v 65), (.v 63)] <|
          (.ite (.v 67)
            (.out 0 [(.c (.bool false))])
            (.call none 186 [(.v 0), (.v 1), (.v 2), (.v 3), (.v 4), (.v 5), (.v 6), (.v 7), (.v 8)] 9 <|
            (.call none 207 [(.v 68), (.v 69), (.v 70), (.v 71), (.v 72), (.v 73), (.v 74), (.v 75), (.v 76)] 2 <|
            (.call none 100 [(.v 77), (.v 20)] 1 <|
            (.op none .bnot [(.v 79)] <|
            (.op (some ((.v 80), false)) .id [(.v 78)] <|
            (.op (some ((.v 80), false)) .id [(.v 21)] <|
            (.op (some ((.v 80), false)) .bne [(.v 81), (.v 82)] <|
            (.op none .pick [(.v 80), (.c (.bool true)), (.v 83)] <|
            (.ite (.v 84)
              (.out 0 [(.c (.bool false))])
              (.call none 104 [(.v 64), (.c (.int 1))] 1 <|
              (.op none (.icm .lss) [(.v 85), (.c (.int 0))] <|
              (.ite (.v 86)
                (.out 0 [(.c (.bool false))])
                (.op none (.icm .neq) [(.v 85), (.v 63)] <|
                (.ite (.v 87)
                  (.out 0 [(.c (.bool false))])
                  (.out 0 [(.c (.bool true))])))))))))))))))))))))))))))))))))))))))))))))))))
def S208 (G : Told) (_fuel : Nat) (x0 x1 x2 x3 x4 x5 x6 x7 x8 : D) : Option (Nat × List D) :=
  (gcall G none 182 [x0, x1, x2, x3, x4, x5, x6, x7, x8, (.int 1048576)] 1).bind fun e9 =>
  (gev none (.icm .lss) [(e9.getD 0 .undef), (.int 0)]).bind fun x10 =>
  tif x10 (
    some (0, [(.bool true)])) (
    (gcall G none 186 [x0, x1, x2, x3, x4, x5, x6, x7, x8] 9).bind fun e11 =>
    (gcall G none 207 [(e11.getD 0 .undef), (e11.getD 1 .undef), (e11.getD 2 .undef), (e11.getD 3 .undef), (e11.getD 4 .undef), (e11.getD 5 .undef), (e11.getD 6 .undef), (e11.getD 7 .undef), (e11.getD 8 .undef)] 2).bind fun e20 =>
    (gcall G none 186 [x0, x1, x2, x3, x4, x5, x6, x7, x8] 9).bind fun e22 =>
    (gcall G none 207 [(e22.getD 0 .undef), (e22.getD 1 .undef), (e22.getD 2 .undef), (e22.getD 3 .undef), (e22.getD 4 .undef), (e22.getD 5 .undef), (e22.getD 6 .undef), (e22.getD 7 .undef), (e22.getD 8 .undef)] 2).bind fun e31 =>
    (gcall G none 100 [(e31.getD 0 .undef), (e20.getD 0 .undef)] 1).bind fun e33 =>
    (gev none .bnot [(e33.getD 0 .undef)]).bind fun x34 =>
    (gev (some (x34, false)) .id [(e31.getD 1 .undef)]).bind fun x35 =>
    (gev (some (x34, false)) .id [(e20.getD 1 .undef)]).bind fun x36 =>
    (gev (some (x34, false)) .bne [x35, x36]).bind fun x37 =>
    (gev none .pick [x34, (.bool true), x37]).bind fun x38 =>
    tif x38 (
      some (0, [(.bool false)])) (
      (gcall G none 186 [x0, x1, x2, x3, x4, x5, x6, x7, x8] 9).bind fun e39 =>
      (gcall G none 190 [(e22.getD 0 .undef), (e22.getD 1 .undef), (e22.getD 2 .undef), (e22.getD 3 .undef), (e22.getD 4 .undef), (e22.getD 5 .undef), (e22.getD 6 .undef), (e22.getD 7 .undef), (e22.getD 8 .undef), (e39.getD 0 .undef), (e39.getD 1 .undef), (e39.getD 2 .undef), (e39.getD 3 .undef), (e39.getD 4 .undef), (e39.getD 5 .undef), (e39.getD 6 .undef), (e39.getD 7 .undef), (e39.getD 8 .undef)] 1).bind fun e48 =>
      (gev none .bnot [(e48.getD 0 .undef)]).bind fun x49 =>
      tif x49 (
        some (0, [(.bool false)])) (
        (gcall G none 193 [(e22.getD 0 .undef), (e22.getD 1 .undef), (e22.getD 2 .undef), (e22.getD 3 .undef), (e22.getD 4 .undef), (e22.getD 5 .undef), (e22.getD 6 .undef), (e22.getD 7 .undef), (e22.getD 8 .undef), (.int 1)] 5).bind fun e50 =>
        (gev none (.icm .lss) [(e50.getD 0 .undef), (.int 0)]).bind fun x55 =>
        (gcall G (some (x55, false)) 100 [(e31.getD 0 .undef), (e20.getD 0 .undef)] 1).bind fun e56 =>
        (gev (some (x55, false)) .bnot [(e56.getD 0 .undef)]).bind fun x57 =>
        (gev none .pick [x55, (.bool true), x57]).bind fun x58 =>
        (gev (some (x58, false)) .id [(e31.getD 1 .undef)]).bind fun x59 =>
        (gev (some (x58, false)) .id [(e20.getD 1 .undef)]).bind fun x60 =>
        (gev (some (x58, false)) .bne [x59, x60]).bind fun x61 =>
        (gev none .pick [x58, (.bool true), x61]).bind fun x62 =>
        tif x62 (
          some (0, [(.bool false)])) (
          (gcall G none 102 [(e31.getD 0 .undef), (.int 1)] 2).bind fun e63 =>
          (gcall G none 104 [(e63.getD 1 .undef), (.int 1)] 1).bind fun e65 =>
          (gev none (.icm .lss) [(e65.getD 0 .undef), (.int 0)]).bind fun x66 =>
          tif x66 (
            some (0, [(.bool false)])) (
            (gev none (.icm .neq) [(e65.getD 0 .undef), (e63.getD 0 .undef)]).bind fun x67 =>
            tif x67 (
              some (0, [(.bool false)])) (
              (gcall G none 186 [x0, x1, x2, x3, x4, x5, x6, x7, x8] 9).bind fun e68 =>
              (gcall G none 207 [(e68.getD 0 .undef), (e68.getD 1 .undef), (e68.getD 2 .undef), (e68.getD 3 .undef), (e68.getD 4 .undef), (e68.getD 5 .undef), (e68.getD 6 .undef), (e68.getD 7 .undef), (e68.getD 8 .undef)] 2).bind fun e77 =>
              (gcall G none 100 [(e77.getD 0 .undef), (e20.getD 0 .undef)] 1).bind fun e79 =>
              (gev none .bnot [(e79.getD 0 .undef)]).bind fun x80 =>
              (gev (some (x80, false)) .id [(e77.getD 1 .undef)]).bind fun x81 =>
              (gev (some (x80, false)) .id [(e20.getD 1 .undef)]).bind fun x82 =>
              (gev (some (x80, false)) .bne [x81, x82]).bind fun x83 =>
              (gev none .pick [x80, (.bool true), x83]).bind fun x84 =>
              tif x84 (
                some (0, [(.bool false)])) (
                (gcall G none 104 [(e63.getD 1 .undef), (.int 1)] 1).bind fun e85 =>
                (gev none (.icm .lss) [(e85.getD 0 .undef), (.int 0)]).bind fun x86 =>
                tif x86 (
                  some (0, [(.bool false)])) (
                  (gev none (.icm .neq) [(e85.getD 0 .undef), (e63.getD 0 .undef)]).bind fun x87 =>
                  tif x87 (
                    some (0, [(.bool false)])) (
                    some (0, [(.bool true)]))))))))))
theorem eq208 {G : Told} {fuel : Nat} (x0 x1 x2 x3 x4 x5 x6 x7 x8 : D) : run G fuel T208 [x0, x1, x2, x3, x4, x5, x6, x7, x8] = S208 G fuel x0 x1 x2 x3 x4 x5 x6 x7 x8 := by
  rw [run_eq]; kernel_rfl

attribute [local irreducible] tif tjoin IntKind.wrap feq fadd fmul fsub fdiv fgt fge flt fneg i2f sameP wide eqV vl il tl sl fl totL validB marksS marksW mkB outN szM szP marksV marksT inr triP validP rootP

set_option maxHeartbeats 4000000 in
theorem run191 {G : Told} : ∀ ds rs, F191 ds = some rs → ∃ fuel, run G fuel T191 ds = some (0, rs) := by
  intro ds rs h
  unfold F191 at h
  split at h
  case h_2 => cases h
  rename_i c m
  obtain ⟨l, ha, h⟩ := Option.bind_eq_some_iff.1 h
  rw [dS_inv ha]
  split at h
  case isFalse => cases h
  rename_i hc
  obtain ⟨hc, hm0, hm1⟩ := hc
  simp only [Option.some.injEq] at h
  subst h
  refine ⟨l.length + 1, ?_⟩
  rw [eq191]
  unfold S191
  have hlm : (marksS m l.length).length = l.length := marksS_length _ _
  have hloop : iter (tbody 3 (S191L0 G)) (l.length + 1) [sl l, .int m, .int 0] = some (0, [sl (marksS m l.length), .int (m + 4 * (l.length : Int)), .int (l.length : Int), .int (l.length : Int), .int (l.length : Int), .bool false]) := by
    have h1 := iter_upto (body := tbody 3 (S191L0 G)) (n := l.length) (l := 0) (ds := [sl (marksS m l.length), .int (m + 4 * (l.length : Int)), .int (l.length : Int), .int (l.length : Int), .int (l.length : Int), .bool false])
      (fun i => [sl ((marksS m l.length).take i ++ l.drop i), .int (m + 4 * (i : Int)), .int (i : Int)]) ?_ ?_
    · simpa using h1
    · intro i hi
      refine tb rfl ?_
      have hml := mix_len (a := marksS m l.length) (b := l) (i := i) hlm (by omega)
      have hms := mix_set (a := marksS m l.length) (b := l) (i := i) hlm (by omega)
      rw [marksS_get] at hms
      have hn := len_sl (l := (marksS m l.length).take i ++ l.drop i)
      rw [hml] at hn
      have h0 : decide ((i : Int) < (l.length : Int)) = true := by simpa using hi
      generalize (marksS m l.length).take i ++ l.drop i = v at hml hms hn
      have hx := idx_sl (l := v) (i := i) (by omega)
      have ha := add1n (i := i) (by omega)
      have ha1 := add1 (i := m + 4 * (i : Int)) (by omega) (by omega)
      have ha2 := add1 (i := m + 4 * (i : Int) + 1) (by omega) (by omega)
      rw [show m + 4 * (i : Int) + 1 + 1 = m + 4 * (i : Int) + 2 from by omega] at ha2
      have ha3 := add1 (i := m + 4 * (i : Int) + 2) (by omega) (by omega)
      rw [show m + 4 * (i : Int) + 2 + 1 = m + 4 * (i : Int) + 3 from by omega] at ha3
      have ha4 := add1 (i := m + 4 * (i : Int) + 3) (by omega) (by omega)
      rw [show m + 4 * (i : Int) + 3 + 1 = m + 4 * ((i + 1 : Nat) : Int) from by omega] at ha4
      have hs := set_sl (l := v) (i := i) (v := ⟨m + 4 * (i : Int), v[i].b, v[i].l, v[i].k⟩) (by omega)
      have hx2 := idx_sl (l := v.set i ⟨m + 4 * (i : Int), v[i].b, v[i].l, v[i].k⟩) (i := i) (by simp; omega)
      rw [List.getElem_set_self] at hx2
      have hs2 := set_sl (l := v.set i ⟨m + 4 * (i : Int), v[i].b, v[i].l, v[i].k⟩) (i := i) (v := ⟨m + 4 * (i : Int), m + 4 * (i : Int) + 1, v[i].l, v[i].k⟩) (by simp; omega)
      rw [List.set_set] at hs2
      have hx3 := idx_sl (l := v.set i ⟨m + 4 * (i : Int), m + 4 * (i : Int) + 1, v[i].l, v[i].k⟩) (i := i) (by simp; omega)
      rw [List.getElem_set_self] at hx3
      have hs3 := set_sl (l := v.set i ⟨m + 4 * (i : Int), m + 4 * (i : Int) + 1, v[i].l, v[i].k⟩) (i := i) (v := ⟨m + 4 * (i : Int), m + 4 * (i : Int) + 1, i2f .f32 (m + 4 * (i : Int) + 2), v[i].k⟩) (by simp; omega)
      rw [List.set_set] at hs3
      have hx4 := idx_sl (l := v.set i ⟨m + 4 * (i : Int), m + 4 * (i : Int) + 1, i2f .f32 (m + 4 * (i : Int) + 2), v[i].k⟩) (i := i) (by simp; omega)
      rw [List.getElem_set_self] at hx4
      have hs4 := set_sl (l := v.set i ⟨m + 4 * (i : Int), m + 4 * (i : Int) + 1, i2f .f32 (m + 4 * (i : Int) + 2), v[i].k⟩) (i := i) (v := ⟨m + 4 * (i : Int), m + 4 * (i : Int) + 1, i2f .f32 (m + 4 * (i : Int) + 2), i2f .f32 (m + 4 * (i : Int) + 3)⟩) (by simp; omega)
      rw [List.set_set, hms] at hs4
      unfold S191L0
      repeat' first
        | with_reducible refine st_ift ?_
        | with_reducible refine st_iff ?_
        | ((with_reducible apply st_ift2); exact rfl)
        | ((with_reducible apply st_iff2); exact rfl)
        | ((with_reducible apply st_ift2); exact rfl)
        | ((with_reducible apply st_iff2); exact rfl)
        | ((with_reducible apply st_some); exact hx)
        | ((with_reducible apply st_some); exact hx2)
        | ((with_reducible apply st_some); exact hx3)
        | ((with_reducible apply st_some); exact hx4)
        | ((with_reducible apply st_some); exact hs)
        | ((with_reducible apply st_some); exact hs2)
        | ((with_reducible apply st_some); exact hs3)
        | ((with_reducible apply st_some); exact hs4)
        | ((with_reducible apply st_some); exact ha)
        | ((with_reducible apply st_some); exact ha1)
        | ((with_reducible apply st_some); exact ha2)
        | ((with_reducible apply st_some); exact ha3)
        | ((with_reducible apply st_some); exact ha4)
        | ((with_reducible apply st_some); exact hn)
        | ((with_reducible apply st_callt); assumption; exact rfl; exact rfl; assumption)
        | ((with_reducible apply st_callf); assumption; exact rfl; exact rfl; assumption)
        | ((with_reducible apply st_call); assumption; exact rfl; exact rfl; exact rfl)
        | ((with_reducible apply st_wide); exact rfl; exact rfl)
        | ((with_reducible apply st_skip); exact rfl)
        | ((with_reducible apply st_t); exact rfl; exact rfl)
        | ((with_reducible apply st_f); exact rfl; exact rfl)
        | ((with_reducible apply st_t); exact rfl; assumption)
        | ((with_reducible apply st_f); exact rfl; assumption)
        | ((with_reducible apply st_some); exact rfl)
        | exact rfl
    · refine tb rfl ?_
      have h0 : decide ((l.length : Int) < (l.length : Int)) = false := by simp
      have e : (marksS m l.length).take l.length ++ l.drop l.length = marksS m l.length := by simp [List.take_of_length_le, hlm]
      rw [e]
      have hn := len_sl (l := marksS m l.length)
      rw [hlm] at hn
      unfold S191L0
      repeat' first
        | with_reducible refine st_ift ?_
        | with_reducible refine st_iff ?_
        | ((with_reducible apply st_ift2); exact rfl)
        | ((with_reducible apply st_iff2); exact rfl)
        | ((with_reducible apply st_ift2); exact rfl)
        | ((with_reducible apply st_iff2); exact rfl)
        | ((with_reducible apply st_some); exact hn)
        | ((with_reducible apply st_callt); assumption; exact rfl; exact rfl; assumption)
        | ((with_reducible apply st_callf); assumption; exact rfl; exact rfl; assumption)
        | ((with_reducible apply st_call); assumption; exact rfl; exact rfl; exact rfl)
        | ((with_reducible apply st_wide); exact rfl; exact rfl)
        | ((with_reducible apply st_skip); exact rfl)
        | ((with_reducible apply st_t); exact rfl; exact rfl)
        | ((with_reducible apply st_f); exact rfl; exact rfl)
        | ((with_reducible apply st_t); exact rfl; assumption)
        | ((with_reducible apply st_f); exact rfl; assumption)
        | ((with_reducible apply st_some); exact rfl)
        | exact rfl
  refine st_join hloop rfl ?_
  rfl
set_option maxHeartbeats 4000000 in
theorem run192 {G : Told} : ∀ ds rs, F192 ds = some rs → ∃ fuel, run G fuel T192 ds = some (0, rs) := by
  intro ds rs h
  unfold F192 at h
  split at h
  case h_2 => cases h
  rename_i c m
  obtain ⟨l, ha, h⟩ := Option.bind_eq_some_iff.1 h
  rw [dW_inv ha]
  split at h
  case isFalse => cases h
  rename_i hc
  obtain ⟨hc, hm0, hm1⟩ := hc
  simp only [Option.some.injEq] at h
  subst h
  refine ⟨l.length + 1, ?_⟩
  rw [eq192]
  unfold S192
  have hlm : (marksW m l.length).length = l.length := marksW_length _ _
  have hloop : iter (tbody 3 (S192L0 G)) (l.length + 1) [fl l, .int m, .int 0] = some (0, [fl (marksW m l.length), .int (m + (l.length : Int)), .int (l.length : Int), .int (l.length : Int), .int (l.length : Int), .bool false]) := by
    have h1 := iter_upto (body := tbody 3 (S192L0 G)) (n := l.length) (l := 0) (ds := [fl (marksW m l.length), .int (m + (l.length : Int)), .int (l.length : Int), .int (l.length : Int), .int (l.length : Int), .bool false])
      (fun i => [fl ((marksW m l.length).take i ++ l.drop i), .int (m + (i : Int)), .int (i : Int)]) ?_ ?_
    · simpa using h1
    · intro i hi
      refine tb rfl ?_
      have hml := mix_len (a := marksW m l.length) (b := l) (i := i) hlm (by omega)
      have hms := mix_set (a := marksW m l.length) (b := l) (i := i) hlm (by omega)
      rw [marksW_get] at hms
      have hn := len_fl (l := (marksW m l.length).take i ++ l.drop i)
      rw [hml] at hn
      have h0 : decide ((i : Int) < (l.length : Int)) = true := by simpa using hi
      generalize (marksW m l.length).take i ++ l.drop i = v at hml hms hn
      have hx := idx_fl (l := v) (i := i) (by omega)
      have ha := add1n (i := i) (by omega)
      have ha1 := add1 (i := m + (i : Int)) (by omega) (by omega)
      rw [show m + (i : Int) + 1 = m + ((i + 1 : Nat) : Int) from by omega] at ha1
      have hs := set_fl (l := v) (i := i) (v := i2f .f32 (m + (i : Int))) (by omega)
      rw [hms] at hs
      unfold S192L0
      repeat' first
        | with_reducible refine st_ift ?_
        | with_reducible refine st_iff ?_
        | ((with_reducible apply st_ift2); exact rfl)
        | ((with_reducible apply st_iff2); exact rfl)
        | ((with_reducible apply st_ift2); exact rfl)
        | ((with_reducible apply st_iff2); exact rfl)
        | ((with_reducible apply st_some); exact hx)
        | ((with_reducible apply st_some); exact hs)
        | ((with_reducible apply st_some); exact ha)
        | ((with_reducible apply st_some); exact ha1)
        | ((with_reducible apply st_some); exact hn)
        | ((with_reducible apply st_callt); assumption; exact rfl; exact rfl; assumption)
        | ((with_reducible apply st_callf); assumption; exact rfl; exact rfl; assumption)
        | ((with_reducible apply st_call); assumption; exact rfl; exact rfl; exact rfl)
        | ((with_reducible apply st_wide); exact rfl; exact rfl)
        | ((with_reducible apply st_skip); exact rfl)
        | ((with_reducible apply st_t); exact rfl; exact rfl)
        | ((with_reducible apply st_f); exact rfl; exact rfl)
        | ((with_reducible apply st_t); exact rfl; assumption)
        | ((with_reducible apply st_f); exact rfl; assumption)
        | ((with_reducible apply st_some); exact rfl)
        | exact rfl
    · refine tb rfl ?_
      have h0 : decide ((l.length : Int) < (l.length : Int)) = false := by simp
      have e : (marksW m l.length).take l.length ++ l.drop l.length = marksW m l.length := by simp [List.take_of_length_le, hlm]
      rw [e]
      have hn := len_fl (l := marksW m l.length)
      rw [hlm] at hn
      unfold S192L0
      repeat' first
        | with_reducible refine st_ift ?_
        | with_reducible refine st_iff ?_
        | ((with_reducible apply st_ift2); exact rfl)
        | ((with_reducible apply st_iff2); exact rfl)
        | ((with_reducible apply st_ift2); exact rfl)
        | ((with_reducible apply st_iff2); exact rfl)
        | ((with_reducible apply st_some); exact hn)
        | ((with_reducible apply st_callt); assumption; exact rfl; exact rfl; assumption)
        | ((with_reducible apply st_callf); assumption; exact rfl; exact rfl; assumption)
        | ((with_reducible apply st_call); assumption; exact rfl; exact rfl; exact rfl)
        | ((with_reducible apply st_wide); exact rfl; exact rfl)
        | ((with_reducible apply st_skip); exact rfl)
        | ((with_reducible apply st_t); exact rfl; exact rfl)
        | ((with_reducible apply st_f); exact rfl; exact rfl)
        | ((with_reducible apply st_t); exact rfl; assumption)
        | ((with_reducible apply st_f); exact rfl; assumption)
        | ((with_reducible apply st_some); exact rfl)
        | exact rfl
  refine st_join hloop rfl ?_
  rfl
set_option maxHeartbeats 4000000 in
theorem run193 {G : Told} (g147 : G 147 = F147) (g191 : G 191 = F191) (g192 : G 192 = F192) : ∀ ds rs, F193 ds = some rs → ∃ fuel, run G fuel T193 ds = some (0, rs) := by
  intro ds rs h
  unfold F193 at h
  obtain ⟨⟨B, r⟩, hb, h⟩ := Option.bind_eq_some_iff.1 h
  rw [dB_inv hb]
  split at h
  case isFalse => cases h
  rename_i hc
  simp only [Option.some.injEq] at h
  subst h
  obtain ⟨hr, hc⟩ := hc
  dsimp only at hr hc
  subst hr
  obtain ⟨vs, ts, ss, fm, bn, ws, x, y, z⟩ := B
  simp only [bd, List.cons_append, List.nil_append]
  have hz : szM vs ts + ss.length + ws.length ≤ 1048576 := hc
  have hz2 : szM vs ts = vs.length + ts.length + totL ts := by unfold szM; rfl
  refine ⟨0, ?_⟩
  rw [eq193]
  unfold S193
  have h1 := F147_m (vs := vs) (ts := ts) (m := 1) (by omega) (by omega) (by omega)
  have h2 : F191 [sl ss, .int (1 + 3 * vs.length + totL ts)] = some [.int (1 + 3 * vs.length + totL ts + 4 * ss.length), sl (marksS (1 + 3 * vs.length + totL ts) ss.length)] := by
    simp only [F191, dS_sl, Option.bind_some]
    exact if_pos ⟨by omega, by omega, by omega⟩
  have h3 : F192 [fl ws, .int (1 + 3 * vs.length + totL ts + 4 * ss.length)] = some [.int (1 + 3 * vs.length + totL ts + 4 * ss.length + ws.length), fl (marksW (1 + 3 * vs.length + totL ts + 4 * ss.length) ws.length)] := by
    simp only [F192, dW_fl, Option.bind_some]
    exact if_pos ⟨by omega, by omega, by omega⟩
  have e : mkB ⟨vs, ts, ss, fm, bn, ws, x, y, z⟩ = 1 + 3 * vs.length + totL ts + 4 * ss.length + ws.length := by unfold mkB; rfl
  rw [e]
  repeat' first
    | with_reducible refine st_ift ?_
    | with_reducible refine st_iff ?_
    | ((with_reducible apply st_ift2); exact rfl)
    | ((with_reducible apply st_iff2); exact rfl)
    | ((with_reducible apply st_ift2); exact rfl)
    | ((with_reducible apply st_iff2); exact rfl)
    | ((with_reducible apply st_call); exact g147; exact rfl; exact h1; exact rfl)
    | ((with_reducible apply st_call); exact g191; exact rfl; exact h2; exact rfl)
    | ((with_reducible apply st_call); exact g192; exact rfl; exact h3; exact rfl)
    | ((with_reducible apply st_callt); assumption; exact rfl; exact rfl; assumption)
    | ((with_reducible apply st_callf); assumption; exact rfl; exact rfl; assumption)
    | ((with_reducible apply st_call); assumption; exact rfl; exact rfl; exact rfl)
    | ((with_reducible apply st_wide); exact rfl; exact rfl)
    | ((with_reducible apply st_skip); exact rfl)
    | ((with_reducible apply st_t); exact rfl; exact rfl)
    | ((with_reducible apply st_f); exact rfl; exact rfl)
    | ((with_reducible apply st_t); exact rfl; assumption)
    | ((with_reducible apply st_f); exact rfl; assumption)
    | ((with_reducible apply st_some); exact rfl)
    | exact rfl
set_option maxHeartbeats 4000000 in
theorem run208 {G : Told} (g100 : G 100 = F100) (g102 : G 102 = F102) (g104 : G 104 = F104) (g182 : G 182 = F182) (g186 : G 186 = F186) (g190 : G 190 = F190) (g193 : G 193 = F193) (g207 : G 207 = F207) : ∀ ds rs, F208 ds = some rs → ∃ fuel, run G fuel T208 ds = some (0, rs) := by
  intro ds rs h
  unfold F208 at h
  obtain ⟨⟨B, r⟩, hb, h⟩ := Option.bind_eq_some_iff.1 h
  rw [dB_inv hb]
  dsimp only at h
  split at h
  case isFalse => cases h
  rename_i hc
  simp only [Option.some.injEq] at h
  subst h
  obtain ⟨hr, hc⟩ := hc
  subst hr
  have z1 := F182_m hc
  have t1 := F186_m (B := B)
  have q1 := F190_m (B := B)
  have r1 := F207_m (B := B)
  have m1 := F193_m (B := B)
  have hw : ∃ l w, colP B = [il l, .bool w] ∧ l.length ≤ 1048576 := by
    unfold colP
    split
    · rename_i hv
      have := validB_200 hv
      exact ⟨_, _, rfl, by rw [outN_len]; omega⟩
    · exact ⟨_, _, rfl, by simp⟩
  obtain ⟨l, w, hw, hu⟩ := hw
  rw [hw] at r1
  have hmk : 0 < mkB B := by unfold mkB; omega
  generalize mkB B = km at hmk m1
  generalize szB B = n at *
  obtain ⟨vs, ts, ss, fm, bn, ws, x, y, z⟩ := B
  simp only [bd, List.cons_append, List.nil_append] at z1 t1 q1 r1 m1 ⊢
  refine ⟨0, ?_⟩
  rw [eq208]
  unfold S208
  by_cases hn : n ≤ 1048576
  case neg =>
    rw [szP_neg hn] at z1
    repeat' first
      | with_reducible refine st_ift ?_
      | with_reducible refine st_iff ?_
      | ((with_reducible apply st_ift2); exact rfl)
      | ((with_reducible apply st_iff2); exact rfl)
      | ((with_reducible apply st_ift2); exact rfl)
      | ((with_reducible apply st_iff2); exact rfl)
      | ((with_reducible apply st_call); exact g182; exact rfl; exact z1; exact rfl)
      | ((with_reducible apply st_callt); assumption; exact rfl; exact rfl; assumption)
      | ((with_reducible apply st_callf); assumption; exact rfl; exact rfl; assumption)
      | ((with_reducible apply st_call); assumption; exact rfl; exact rfl; exact rfl)
      | ((with_reducible apply st_wide); exact rfl; exact rfl)
      | ((with_reducible apply st_skip); exact rfl)
      | ((with_reducible apply st_t); exact rfl; exact rfl)
      | ((with_reducible apply st_f); exact rfl; exact rfl)
      | ((with_reducible apply st_t); exact rfl; assumption)
      | ((with_reducible apply st_f); exact rfl; assumption)
      | ((with_reducible apply st_some); exact rfl)
      | exact rfl
  rw [szP_pos hn] at z1
  have d1 : decide ((1048576 : Int) - (n : Nat) < 0) = false := by simp; omega
  have t1 := t1 hn
  have q1 := q1 hn
  have r1 := r1 hn
  obtain ⟨ma, mb, mc, md, m1⟩ := m1 hn
  have q3 := F100_il hu
  have m3 := F102_il (m := 1) hu (by omega) (by omega)
  have n3 := F104_mk (m := 1) hu (by omega) (by omega)
  have d3 : decide (km < 0) = false := by simp; omega
  have d4 : decide ((1 : Int) + l.length < 0) = false := by simp; omega
  have d5 : ((1 : Int) + l.length != 1 + l.length) = false := by simp
  cases w
  · repeat' first
      | with_reducible refine st_ift ?_
      | with_reducible refine st_iff ?_
      | ((with_reducible apply st_ift2); exact rfl)
      | ((with_reducible apply st_iff2); exact rfl)
      | ((with_reducible apply st_ift2); exact rfl)
      | ((with_reducible apply st_iff2); exact rfl)
      | ((with_reducible apply st_call); exact g182; exact rfl; exact z1; exact rfl)
      | ((with_reducible apply st_call); exact g186; exact rfl; exact t1; exact rfl)
      | ((with_reducible apply st_call); exact g207; exact rfl; exact r1; exact rfl)
      | ((with_reducible apply st_call); exact g190; exact rfl; exact q1; exact rfl)
      | ((with_reducible apply st_call); exact g100; exact rfl; exact q3; exact rfl)
      | ((with_reducible apply st_call); exact g102; exact rfl; exact m3; exact rfl)
      | ((with_reducible apply st_call); exact g104; exact rfl; exact n3; exact rfl)
      | ((with_reducible apply st_call); exact g193; exact rfl; exact m1; exact rfl)
      | ((with_reducible apply st_callt); assumption; exact rfl; exact rfl; assumption)
      | ((with_reducible apply st_callf); assumption; exact rfl; exact rfl; assumption)
      | ((with_reducible apply st_call); assumption; exact rfl; exact rfl; exact rfl)
      | ((with_reducible apply st_wide); exact rfl; exact rfl)
      | ((with_reducible apply st_skip); exact rfl)
      | ((with_reducible apply st_t); exact rfl; exact rfl)
      | ((with_reducible apply st_f); exact rfl; exact rfl)
      | ((with_reducible apply st_t); exact rfl; assumption)
      | ((with_reducible apply st_f); exact rfl; assumption)
      | ((with_reducible apply st_some); exact rfl)
      | exact rfl
  · repeat' first
      | with_reducible refine st_ift ?_
      | with_reducible refine st_iff ?_
      | ((with_reducible apply st_ift2); exact rfl)
      | ((with_reducible apply st_iff2); exact rfl)
      | ((with_reducible apply st_ift2); exact rfl)
      | ((with_reducible apply st_iff2); exact rfl)
      | ((with_reducible apply st_call); exact g182; exact rfl; exact z1; exact rfl)
      | ((with_reducible apply st_call); exact g186; exact rfl; exact t1; exact rfl)
      | ((with_reducible apply st_call); exact g207; exact rfl; exact r1; exact rfl)
      | ((with_reducible apply st_call); exact g190; exact rfl; exact q1; exact rfl)
      | ((with_reducible apply st_call); exact g100; exact rfl; exact q3; exact rfl)
      | ((with_reducible apply st_call); exact g102; exact rfl; exact m3; exact rfl)
      | ((with_reducible apply st_call); exact g104; exact rfl; exact n3; exact rfl)
      | ((with_reducible apply st_call); exact g193; exact rfl; exact m1; exact rfl)
      | ((with_reducible apply st_callt); assumption; exact rfl; exact rfl; assumption)
      | ((with_reducible apply st_callf); assumption; exact rfl; exact rfl; assumption)
      | ((with_reducible apply st_call); assumption; exact rfl; exact rfl; exact rfl)
      | ((with_reducible apply st_wide); exact rfl; exact rfl)
      | ((with_reducible apply st_skip); exact rfl)
      | ((with_reducible apply st_t); exact rfl; exact rfl)
      | ((with_reducible apply st_f); exact rfl; exact rfl)
      | ((with_reducible apply st_t); exact rfl; assumption)
      | ((with_reducible apply st_f); exact rfl; assumption)
      | ((with_reducible apply st_some); exact rfl)
      | exact rfl

end Vs
