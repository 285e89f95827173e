/-
  ColourClass: what the functions compute, and the law.
-/
import Derived.Test.YtjgbalnanfngjaaK13
namespace Vs
open Go

def clsN (l : List Int) (c : Int) : Nat → List Int
  | 0 => []
  | i + 1 => if l.getD i 0 == c then clsN l c i ++ [(i : Int)] else clsN l c i
theorem clsN_len (l : List Int) (c : Int) : ∀ i, (clsN l c i).length ≤ i
  | 0 => by simp [clsN]
  | i + 1 => by
    have := clsN_len l c i
    simp only [clsN]
    split
    · simp; omega
    · omega
noncomputable def F214 : List D → Option (List D)
  | [a, .int c] => (dI a).bind fun l => if l.length ≤ 1000 then some [il (clsN l c l.length)] else none
  | _ => none
theorem F214_m {l : List Int} {c : Int} (h : l.length ≤ 1000) : F214 [il l, .int c] = some [il (clsN l c l.length)] := by
  simp only [F214, dI_il, Option.bind_some]
  exact if_pos h
noncomputable def clsP (B : Bd) (c : Int) : List D := if (validB B && rangeP c) = true then [il (clsN (outN B.ss B.ss.length) c B.ss.length), .bool true] else [il [], .bool false]
open Classical in
noncomputable def F213 (ds : List D) : Option (List D) := (dB ds).bind fun p => if h : ∃ c, p.2 = [.int c] ∧ szB p.1 ≤ 1048576 then some (clsP p.1 h.choose) else none
theorem F213_m {B : Bd} {c : Int} (h : szB B ≤ 1048576) : F213 (bd B ++ [.int c]) = some (clsP B c) := by
  have hx : ∃ c', ([.int c] : List D) = [.int c'] ∧ szB B ≤ 1048576 := ⟨c, rfl, h⟩
  simp only [F213, dB_bd, Option.bind_some]
  rw [dif_pos hx]
  have hs := hx.choose_spec.1
  generalize hx.choose = d at hs ⊢
  simp only [List.cons.injEq, D.int.injEq, and_true] at hs
  rw [hs]
open Classical in
noncomputable def F215 (ds : List D) : Option (List D) := (dB ds).bind fun p => if ∃ c, p.2 = [.int c] ∧ lawB p.1 then some [.bool true] else none

def T214 : T :=
(.op none .mklst [] <|
(.op none .len [(.v 0)] <|
(.join 3
  (.loop [(.v 2), (.c (.int 0))]
    (.op none (.icm .lss) [(.v 5), (.v 3)] <|
    (.ite (.v 6)
      (.op none .idx [(.v 0), (.v 5)] <|
      (.op none (.icm .eql) [(.v 7), (.v 1)] <|
      (.join 1
        (.ite (.v 8)
          (.op none .mklst [(.v 5)] <|
          (.op none .app [(.v 4), (.v 9)] <|
          (.out 0 [(.v 10)])))
          (.out 0 [(.v 4)]))
      (.op none (.iar .add .i64) [(.v 5), (.c (.int 1))] <|
      (.out 0 [(.v 9), (.v 10)])))))
      (.out 1 [(.v 4), (.v 5), (.v 6)]))))
(.out 0 [(.v 4)]))))
def S214L0 (_G : Told) (x0 : D) (x1 : D) (x3 : D) : List D → Option (Nat × List D) := fun e4 =>
      (gev none (.icm .lss) [(e4.getD 1 .undef), x3]).bind fun x6 =>
      tif x6 (
        (gev none .idx [x0, (e4.getD 1 .undef)]).bind fun x7 =>
        (gev none (.icm .eql) [x7, x1]).bind fun x8 =>
        tjoin 1 (
          tif x8 (
            (gev none .mklst [(e4.getD 1 .undef)]).bind fun x9 =>
            (gev none .app [(e4.getD 0 .undef), x9]).bind fun x10 =>
            some (0, [x10])) (
            some (0, [(e4.getD 0 .undef)]))) fun e9 =>
        (gev none (.iar .add .i64) [(e4.getD 1 .undef), (.int 1)]).bind fun x10 =>
        some (0, [(e9.getD 0 .undef), x10])) (
        some (1, [(e4.getD 0 .undef), (e4.getD 1 .undef), x6]))
def S214 (G : Told) (fuel : Nat) (x0 x1 : D) : Option (Nat × List D) :=
  (gev none .mklst []).bind fun x2 =>
  (gev none .len [x0]).bind fun x3 =>
  tjoin 3 (
    iter (tbody 2 (S214L0 G x0 x1 x3)) fuel [x2, (.int 0)]) fun e4 =>
  some (0, [(e4.getD 0 .undef)])
theorem eq214 {G : Told} {fuel : Nat} (x0 x1 : D) : run G fuel T214 [x0, x1] = S214 G fuel x0 x1 := by
  rw [run_eq]; kernel_rfl

def T213 : T :=
(.call none 207 [(.v 0), (.v 1), (.v 2), (.v 3), (.v 4), (.v 5), (.v 6), (.v 7), (.v 8)] 2 <|
(.op none .bnot [(.v 11)] <|
(.op (some ((.v 12), false)) .id [(.v 9)] <|
(.call (some ((.v 12), false)) 19 [(.v 13), (.c (.int 0)), (.c (.int 200))] 1 <|
(.op (some ((.v 12), false)) .bnot [(.v 14)] <|
(.op none .pick [(.v 12), (.c (.bool true)), (.v 15)] <|
(.ite (.v 16)
  (.out 0 [(.c (.lst [])), (.c (.bool false))])
  (.call none 214 [(.v 10), (.v 9)] 1 <|
  (.out 0 [(.v 17), (.c (.bool true))])))))))))
def S213 (G : Told) (_fuel : Nat) (x0 x1 x2 x3 x4 x5 x6 x7 x8 x9 : D) : Option (Nat × List D) :=
  (gcall G none 207 [x0, x1, x2, x3, x4, x5, x6, x7, x8] 2).bind fun e10 =>
  (gev none .bnot [(e10.getD 1 .undef)]).bind fun x12 =>
  (gev (some (x12, false)) .id [x9]).bind fun x13 =>
  (gcall G (some (x12, false)) 19 [x13, (.int 0), (.int 200)] 1).bind fun e14 =>
  (gev (some (x12, false)) .bnot [(e14.getD 0 .undef)]).bind fun x15 =>
  (gev none .pick [x12, (.bool true), x15]).bind fun x16 =>
  tif x16 (
    some (0, [(.lst []), (.bool false)])) (
    (gcall G none 214 [(e10.getD 0 .undef), x9] 1).bind fun e17 =>
    some (0, [(e17.getD 0 .undef), (.bool true)]))
theorem eq213 {G : Told} {fuel : Nat} (x0 x1 x2 x3 x4 x5 x6 x7 x8 x9 : D) : run G fuel T213 [x0, x1, x2, x3, x4, x5, x6, x7, x8, x9] = S213 G fuel x0 x1 x2 x3 x4 x5 x6 x7 x8 x9 := by
  rw [run_eq]; kernel_rfl

def T213s : T :=
(.call none 195 [(.v 0), (.v 1), (.v 2), (.v 3), (.v 4), (.v 5), (.v 6), (.v 7), (.v 8)] 1 <|
(.op none .bnot [(.v 10)] <|
(.op (some ((.v 11), false)) .id [(.v 9)] <|
(.call (some ((.v 11), false)) 19 [(.v 12), (.c (.int 0)), (.c (.int 200))] 1 <|
(.op (some ((.v 11), false)) .bnot [(.v 13)] <|
(.op none .pick [(.v 11), (.c (.bool true)), (.v 14)] <|
(.ite (.v 15)
  (.out 0 [(.c (.lst [])), (.c (.bool false))])
  (.op none .mklst [] <|
  (.call none 203 [(.v 0), (.v 1), (.v 2), (.v 3), (.v 4), (.v 5), (.v 6), (.v 7), (.v 8)] 1 <|
  (.op none .len [(.v 17)] <|
  (.join 3
    (.loop [(.v 16), (.c (.int 0))]
      (.op none (.icm .lss) [(.v 20), (.v 18)] <|
      (.ite (.v 21)
        (.op none .idx [(.v 17), (.v 20)] <|
        (.op none .idx [(.v 17), (.v 20)] <|
        (.op none (.icm .eql) [(.v 23), (.v 9)] <|
        (.join 1
          (.ite (.v 24)
            (.op none .mklst [(.v 20)] <|
            (.op none .app [(.v 19), (.v 25)] <|
            (.out 0 [(.v 26)])))
            (.out 0 [(.v 19)]))
        (.op none (.iar .add .i64) [(.v 20), (.c (.int 1))] <|
        (.out 0 [(.v 25), (.v 26)]))))))
        (.out 1 [(.v 19), (.v 20), (.v 21)]))))
  (.out 0 [(.v 19), (.c (.bool true))]))))))))))))
def S213sL0 (_G : Told) (x9 : D) (e17 : List D) (x18 : D) : List D → Option (Nat × List D) := fun e19 =>
        (gev none (.icm .lss) [(e19.getD 1 .undef), x18]).bind fun x21 =>
        tif x21 (
          (gev none .idx [(e17.getD 0 .undef), (e19.getD 1 .undef)]).bind fun _x22 =>
          (gev none .idx [(e17.getD 0 .undef), (e19.getD 1 .undef)]).bind fun x23 =>
          (gev none (.icm .eql) [x23, x9]).bind fun x24 =>
          tjoin 1 (
            tif x24 (
              (gev none .mklst [(e19.getD 1 .undef)]).bind fun x25 =>
              (gev none .app [(e19.getD 0 .undef), x25]).bind fun x26 =>
              some (0, [x26])) (
              some (0, [(e19.getD 0 .undef)]))) fun e25 =>
          (gev none (.iar .add .i64) [(e19.getD 1 .undef), (.int 1)]).bind fun x26 =>
          some (0, [(e25.getD 0 .undef), x26])) (
          some (1, [(e19.getD 0 .undef), (e19.getD 1 .undef), x21]))
def S213s (G : Told) (fuel : Nat) (x0 x1 x2 x3 x4 x5 x6 x7 x8 x9 : D) : Option (Nat × List D) :=
  (gcall G none 195 [x0, x1, x2, x3, x4, x5, x6, x7, x8] 1).bind fun e10 =>
  (gev none .bnot [(e10.getD 0 .undef)]).bind fun x11 =>
  (gev (some (x11, false)) .id [x9]).bind fun x12 =>
  (gcall G (some (x11, false)) 19 [x12, (.int 0), (.int 200)] 1).bind fun e13 =>
  (gev (some (x11, false)) .bnot [(e13.getD 0 .undef)]).bind fun x14 =>
  (gev none .pick [x11, (.bool true), x14]).bind fun x15 =>
  tif x15 (
    some (0, [(.lst []), (.bool false)])) (
    (gev none .mklst []).bind fun x16 =>
    (gcall G none 203 [x0, x1, x2, x3, x4, x5, x6, x7, x8] 1).bind fun e17 =>
    (gev none .len [(e17.getD 0 .undef)]).bind fun x18 =>
    tjoin 3 (
      iter (tbody 2 (S213sL0 G x9 e17 x18)) fuel [x16, (.int 0)]) fun e19 =>
    some (0, [(e19.getD 0 .undef), (.bool true)]))
theorem eq213s {G : Told} {fuel : Nat} (x0 x1 x2 x3 x4 x5 x6 x7 x8 x9 : D) : run G fuel T213s [x0, x1, x2, x3, x4, x5, x6, x7, x8, x9] = S213s G fuel x0 x1 x2 x3 x4 x5 x6 x7 x8 x9 := by
  rw [run_eq]; kernel_rfl

def T215 : T :=
(.call none 182 [(.v 0), (.v 1), (.v 2), (.v 3), (.v 4), (.v 5), (.v 6), (.v 7), (.v 8), (.c (.int 1048576))] 1 <|
(.op none (.icm .lss) [(.v 10), (.c (.int 0))] <|
(.ite (.v 11)
  (.out 0 [(.c (.bool true))])
  (.call none 186 [(.v 0), (.v 1), (.v 2), (.v 3), (.v 4), (.v 5), (.v 6), (.v 7), (.v 8)] 9 <|
  (.call none 213 [(.v 12), (.v 13), (.v 14), (.v 15), (.v 16), (.v 17), (.v 18), (.v 19), (.v 20), (.v 9)] 2 <|
  (.call none 186 [(.v 0), (.v 1), (.v 2), (.v 3), (.v 4), (.v 5), (.v 6), (.v 7), (.v 8)] 9 <|
  (.call none 213 [(.v 23), (.v 24), (.v 25), (.v 26), (.v 27), (.v 28), (.v 29), (.v 30), (.v 31), (.v 9)] 2 <|
  (.call none 100 [(.v 32), (.v 21)] 1 <|
  (.op none .bnot [(.v 34)] <|
  (.op (some ((.v 35), false)) .id [(.v 33)] <|
  (.op (some ((.v 35), false)) .id [(.v 22)] <|
  (.op (some ((.v 35), false)) .bne [(.v 36), (.v 37)] <|
  (.op none .pick [(.v 35), (.c (.bool true)), (.v 38)] <|
  (.ite (.v 39)
    (.out 0 [(.c (.bool false))])
    (.call none 186 [(.v 0), (.v 1), (.v 2), (.v 3), (.v 4), (.v 5), (.v 6), (.v 7), (.v 8)] 9 <|
    (.call none 190 [(.v 23), (.v 24), (.v 25), (.v 26), (.v 27), (.v 28), (.v 29), (.v 30), (.v 31), (.v 40), (.v 41), (.v 42), (.v 43), (.v 44), (.v 45), (.v 46), (.v 47), (.v 48)] 1 <|
    (.op none .bnot [(.v 49)] <|
    (.ite (.v 50)
      (.out 0 [(.c (.bool false))])
      (.call none 193 [(.v 23), (.v 24), (.v 25), (.v 26), (.v 27), (.v 28), (.v 29), (.v 30), (.v 31), (.c (.int 1))] 5 <|
      (.op none (.icm .lss) [(.v 51), (.c (.int 0))] <|
      (.call (some ((.v 56), false)) 100 [(.v 32), (.v 21)] 1 <|
      (.op (some ((.v 56), false)) .bnot [(.v 57)] <|
      (.op none .pick [(.v 56), (.c (.bool true)), (.v 58)] <|
      (.op (some ((.v 59), false)) .id [(.v 33)] <|
      (.op (some ((.v 59), false)) .id [(.v 22)] <|
      (.op (some ((.v 59), false)) .bne [(.v 60), (.v 61)] <|
      (.op none .pick [(.v 59), (.c (.bool true)), (.v 62)] <|
      (.ite (.v 63)
        (.out 0 [(.c (.bool false))])
        (.call none 102 [(.v 32), (.c (.int 1))] 2 <|
        (.call none 104 [(.v 65), (.c (.int 1))] 1 <|
        (.op none (.icm .lss) [(.v 66), (.c (.int 0))] <|
        (.ite (.v 67)
          (.out 0 [(.c (.bool false))])
          (.op none (.icm .neq) [(.v 66), (.v 64)] <|
          (.ite (.v 68)
            (.out 0 [(.c (.bool false))])
            (.call none 186 [(.v 0), (.v 1), (.v 2), (.v 3), (.v 4), (.v 5), (.v 6), (.v 7), (.v 8)] 9 <|
            (.call none 213 [(.v 69), (.v 70), (.v 71), (.v 72), (.v 73), (.v 74), (.v 75), (.v 76), (.v 77), (.v 9)] 2 <|
            (.call none 100 [(.v 78), (.v 21)] 1 <|
            (.op none .bnot [(.v 80)] <|
            (.op (some ((.v 81), false)) .id [(.v 79)] <|
            (.op (some ((.v 81), false)) .id [(.v 22)] <|
            (.op (some ((.v 81), false)) .bne [(.v 82), (.v 83)] <|
            (.op none .pick [(.v 81), (.c (.bool true)), (.v 84)] <|
            (.ite (.v 85)
              (.out 0 [(.c (.bool false))])
              (.call none 104 [(.v 65), (.c (.int 1))] 1 <|
              (.op none (.icm .lss) [(.v 86), (.c (.int 0))] <|
              (.ite (.v 87)
                (.out 0 [(.c (.bool false))])
                (.op none (.icm .neq) [(.v 86), (.v 64)] <|
                (.ite (.v 88)
                  (.out 0 [(.c (.bool false))])
                  (.out 0 [(.c (.bool true))])))))))))))))))))))))))))))))))))))))))))))))))))
def S215 (G : Told) (_fuel : Nat) (x0 x1 x2 x3 x4 x5 x6 x7 x8 x9 : D) : Option (Nat × List D) :=
  (gcall G none 182 [x0, x1, x2, x3, x4, x5, x6, x7, x8, (.int 1048576)] 1).bind fun e10 =>
  (gev none (.icm .lss) [(e10.getD 0 .undef), (.int 0)]).bind fun x11 =>
  tif x11 (
    some (0, [(.bool true)])) (
    (gcall G none 186 [x0, x1, x2, x3, x4, x5, x6, x7, x8] 9).bind fun e12 =>
    (gcall G none 213 [(e12.getD 0 .undef), (e12.getD 1 .undef), (e12.getD 2 .undef), (e12.getD 3 .undef), (e12.getD 4 .undef), (e12.getD 5 .undef), (e12.getD 6 .undef), (e12.getD 7 .undef), (e12.getD 8 .undef), x9] 2).bind fun e21 =>
    (gcall G none 186 [x0, x1, x2, x3, x4, x5, x6, x7, x8] 9).bind fun e23 =>
    (gcall G none 213 [(e23.getD 0 .undef), (e23.getD 1 .undef), (e23.getD 2 .undef), (e23.getD 3 .undef), (e23.getD 4 .undef), (e23.getD 5 .undef), (e23.getD 6 .undef), (e23.getD 7 .undef), (e23.getD 8 .undef), x9] 2).bind fun e32 =>
    (gcall G none 100 [(e32.getD 0 .undef), (e21.getD 0 .undef)] 1).bind fun e34 =>
    (gev none .bnot [(e34.getD 0 .undef)]).bind fun x35 =>
    (gev (some (x35, false)) .id [(e32.getD 1 .undef)]).bind fun x36 =>
    (gev (some (x35, false)) .id [(e21.getD 1 .undef)]).bind fun x37 =>
    (gev (some (x35, false)) .bne [x36, x37]).bind fun x38 =>
    (gev none .pick [x35, (.bool true), x38]).bind fun x39 =>
    tif x39 (
      some (0, [(.bool false)])) (
      (gcall G none 186 [x0, x1, x2, x3, x4, x5, x6, x7, x8] 9).bind fun e40 =>
      (gcall G none 190 [(e23.getD 0 .undef), (e23.getD 1 .undef), (e23.getD 2 .undef), (e23.getD 3 .undef), (e23.getD 4 .undef), (e23.getD 5 .undef), (e23.getD 6 .undef), (e23.getD 7 .undef), (e23.getD 8 .undef), (e40.getD 0 .undef), (e40.getD 1 .undef), (e40.getD 2 .undef), (e40.getD 3 .undef), (e40.getD 4 .undef), (e40.getD 5 .undef), (e40.getD 6 .undef), (e40.getD 7 .undef), (e40.getD 8 .undef)] 1).bind fun e49 =>
      (gev none .bnot [(e49.getD 0 .undef)]).bind fun x50 =>
      tif x50 (
        some (0, [(.bool false)])) (
        (gcall G none 193 [(e23.getD 0 .undef), (e23.getD 1 .undef), (e23.getD 2 .undef), (e23.getD 3 .undef), (e23.getD 4 .undef), (e23.getD 5 .undef), (e23.getD 6 .undef), (e23.getD 7 .undef), (e23.getD 8 .undef), (.int 1)] 5).bind fun e51 =>
        (gev none (.icm .lss) [(e51.getD 0 .undef), (.int 0)]).bind fun x56 =>
        (gcall G (some (x56, false)) 100 [(e32.getD 0 .undef), (e21.getD 0 .undef)] 1).bind fun e57 =>
        (gev (some (x56, false)) .bnot [(e57.getD 0 .undef)]).bind fun x58 =>
        (gev none .pick [x56, (.bool true), x58]).bind fun x59 =>
        (gev (some (x59, false)) .id [(e32.getD 1 .undef)]).bind fun x60 =>
        (gev (some (x59, false)) .id [(e21.getD 1 .undef)]).bind fun x61 =>
        (gev (some (x59, false)) .bne [x60, x61]).bind fun x62 =>
        (gev none .pick [x59, (.bool true), x62]).bind fun x63 =>
        tif x63 (
          some (0, [(.bool false)])) (
          (gcall G none 102 [(e32.getD 0 .undef), (.int 1)] 2).bind fun e64 =>
          (gcall G none 104 [(e64.getD 1 .undef), (.int 1)] 1).bind fun e66 =>
          (gev none (.icm .lss) [(e66.getD 0 .undef), (.int 0)]).bind fun x67 =>
          tif x67 (
            some (0, [(.bool false)])) (
            (gev none (.icm .neq) [(e66.getD 0 .undef), (e64.getD 0 .undef)]).bind fun x68 =>
            tif x68 (
              some (0, [(.bool false)])) (
              (gcall G none 186 [x0, x1, x2, x3, x4, x5, x6, x7, x8] 9).bind fun e69 =>
              (gcall G none 213 [(e69.getD 0 .undef), (e69.getD 1 .undef), (e69.getD 2 .undef), (e69.getD 3 .undef), (e69.getD 4 .undef), (e69.getD 5 .undef), (e69.getD 6 .undef), (e69.getD 7 .undef), (e69.getD 8 .undef), x9] 2).bind fun e78 =>
              (gcall G none 100 [(e78.getD 0 .undef), (e21.getD 0 .undef)] 1).bind fun e80 =>
              (gev none .bnot [(e80.getD 0 .undef)]).bind fun x81 =>
              (gev (some (x81, false)) .id [(e78.getD 1 .undef)]).bind fun x82 =>
              (gev (some (x81, false)) .id [(e21.getD 1 .undef)]).bind fun x83 =>
              (gev (some (x81, false)) .bne [x82, x83]).bind fun x84 =>
              (gev none .pick [x81, (.bool true), x84]).bind fun x85 =>
              tif x85 (
                some (0, [(.bool false)])) (
                (gcall G none 104 [(e64.getD 1 .undef), (.int 1)] 1).bind fun e86 =>
                (gev none (.icm .lss) [(e86.getD 0 .undef), (.int 0)]).bind fun x87 =>
                tif x87 (
                  some (0, [(.bool false)])) (
                  (gev none (.icm .neq) [(e86.getD 0 .undef), (e64.getD 0 .undef)]).bind fun x88 =>
                  tif x88 (
                    some (0, [(.bool false)])) (
                    some (0, [(.bool true)]))))))))))
theorem eq215 {G : Told} {fuel : Nat} (x0 x1 x2 x3 x4 x5 x6 x7 x8 x9 : D) : run G fuel T215 [x0, x1, x2, x3, x4, x5, x6, x7, x8, x9] = S215 G fuel x0 x1 x2 x3 x4 x5 x6 x7 x8 x9 := by
  rw [run_eq]; kernel_rfl

attribute [local irreducible] tif tjoin IntKind.wrap feq fadd fmul fsub fdiv fgt fge flt fneg i2f sameP wide eqV vl il tl sl fl totL validB rangeP outN mkB szM szP marksV marksT inr triP validP rootP

set_option maxHeartbeats 4000000 in
theorem run214 {G : Told} : ∀ ds rs, F214 ds = some rs → ∃ fuel, run G fuel T214 ds = some (0, rs) := by
  intro ds rs h
  unfold F214 at h
  split at h
  case h_2 => cases h
  rename_i a c
  obtain ⟨l, ha, h⟩ := Option.bind_eq_some_iff.1 h
  rw [dI_inv ha]
  split at h
  case isFalse => cases h
  rename_i hc
  simp only [Option.some.injEq] at h
  subst h
  have hn := len_il (l := l)
  have hfu : ∃ fuel, fuel = 2000 := ⟨_, rfl⟩
  obtain ⟨fuel, hfu⟩ := hfu
  refine ⟨fuel, ?_⟩
  rw [eq214]
  unfold S214
  have hloop : iter (tbody 2 (S214L0 G (il l) (.int c) (.int (l.length : Int)))) fuel [.lst [], .int 0] = some (0, [il (clsN l c l.length), .int (l.length : Int), .bool false]) := by
    have h1 := iter_to (body := tbody 2 (S214L0 G (il l) (.int c) (.int (l.length : Int)))) (n := l.length) (f := fuel) (l := 0) (ds := [il (clsN l c l.length), .int (l.length : Int), .bool false])
      (fun i => [il (clsN l c i), .int (i : Int)]) (by omega) ?_ ?_
    · simpa [clsN, il_nil] using h1
    · intro i hi
      refine tb rfl ?_
      have h0 : decide ((i : Int) < (l.length : Int)) = true := by simpa using hi
      have hx := idx_il hi
      have ha := add1n (i := i) (by omega)
      have hle := clsN_len l c i
      have hp := app_il (l := clsN l c i) (m := [(i : Int)]) (by simp; omega)
      have hq : (.lst [.int (i : Int)] : D) = il [(i : Int)] := by unfold il; rfl
      rw [← hq] at hp
      simp only [clsN, getD_lt hi]
      generalize clsN l c i = o at hp ⊢
      cases he : l[i] == c
      · rw [if_neg (by simp)]
        unfold S214L0
        repeat' first
          | with_reducible refine st_ift ?_
          | with_reducible refine st_iff ?_
          | ((with_reducible apply st_ift2); exact rfl)
          | ((with_reducible apply st_iff2); exact rfl)
          | (with_reducible refine st_join (ds := [il o]) ?_ ?_ ?_)
          | ((with_reducible apply st_some); exact hx)
          | ((with_reducible apply st_some); exact ha)
          | ((with_reducible apply st_callt); assumption; exact rfl; exact rfl; assumption)
          | ((with_reducible apply st_callf); assumption; exact rfl; exact rfl; assumption)
          | ((with_reducible apply st_call); assumption; exact rfl; exact rfl; exact rfl)
          | ((with_reducible apply st_wide); exact rfl; exact rfl)
          | ((with_reducible apply st_skip); exact rfl)
          | ((with_reducible apply st_t); exact rfl; exact rfl)
          | ((with_reducible apply st_f); exact rfl; exact rfl)
          | ((with_reducible apply st_t); exact rfl; assumption)
          | ((with_reducible apply st_f); exact rfl; assumption)
          | ((with_reducible apply st_some); exact rfl)
          | exact rfl
      · rw [if_pos rfl]
        unfold S214L0
        repeat' first
          | with_reducible refine st_ift ?_
          | with_reducible refine st_iff ?_
          | ((with_reducible apply st_ift2); exact rfl)
          | ((with_reducible apply st_iff2); exact rfl)
          | (with_reducible refine st_join (ds := [il (o ++ [(i : Int)])]) ?_ ?_ ?_)
          | ((with_reducible apply st_some); exact hx)
          | ((with_reducible apply st_some); exact ha)
          | ((with_reducible apply st_some); exact hp)
          | ((with_reducible apply st_callt); assumption; exact rfl; exact rfl; assumption)
          | ((with_reducible apply st_callf); assumption; exact rfl; exact rfl; assumption)
          | ((with_reducible apply st_call); assumption; exact rfl; exact rfl; exact rfl)
          | ((with_reducible apply st_wide); exact rfl; exact rfl)
          | ((with_reducible apply st_skip); exact rfl)
          | ((with_reducible apply st_t); exact rfl; exact rfl)
          | ((with_reducible apply st_f); exact rfl; exact rfl)
          | ((with_reducible apply st_t); exact rfl; assumption)
          | ((with_reducible apply st_f); exact rfl; assumption)
          | ((with_reducible apply st_some); exact rfl)
          | exact rfl
    · refine tb rfl ?_
      have h0 : decide ((l.length : Int) < (l.length : Int)) = false := by simp
      unfold S214L0
      repeat' first
        | with_reducible refine st_ift ?_
        | with_reducible refine st_iff ?_
        | ((with_reducible apply st_ift2); exact rfl)
        | ((with_reducible apply st_iff2); exact rfl)
        | ((with_reducible apply st_f); exact rfl; exact h0)
        | ((with_reducible apply st_callt); assumption; exact rfl; exact rfl; assumption)
        | ((with_reducible apply st_callf); assumption; exact rfl; exact rfl; assumption)
        | ((with_reducible apply st_call); assumption; exact rfl; exact rfl; exact rfl)
        | ((with_reducible apply st_wide); exact rfl; exact rfl)
        | ((with_reducible apply st_skip); exact rfl)
        | ((with_reducible apply st_t); exact rfl; exact rfl)
        | ((with_reducible apply st_f); exact rfl; exact rfl)
        | ((with_reducible apply st_t); exact rfl; assumption)
        | ((with_reducible apply st_f); exact rfl; assumption)
        | ((with_reducible apply st_some); exact rfl)
        | exact rfl
  repeat' first
    | with_reducible refine st_ift ?_
    | with_reducible refine st_iff ?_
    | ((with_reducible apply st_ift2); exact rfl)
    | ((with_reducible apply st_iff2); exact rfl)
    | ((with_reducible apply st_join); exact hloop; exact rfl)
    | ((with_reducible apply st_some); exact hn)
    | ((with_reducible apply st_callt); assumption; exact rfl; exact rfl; assumption)
    | ((with_reducible apply st_callf); assumption; exact rfl; exact rfl; assumption)
    | ((with_reducible apply st_call); assumption; exact rfl; exact rfl; exact rfl)
    | ((with_reducible apply st_wide); exact rfl; exact rfl)
    | ((with_reducible apply st_skip); exact rfl)
    | ((with_reducible apply st_t); exact rfl; exact rfl)
    | ((with_reducible apply st_f); exact rfl; exact rfl)
    | ((with_reducible apply st_t); exact rfl; assumption)
    | ((with_reducible apply st_f); exact rfl; assumption)
    | ((with_reducible apply st_some); exact rfl)
    | exact rfl
set_option maxHeartbeats 4000000 in
theorem run213 {G : Told} (g19 : G 19 = F19) (g207 : G 207 = F207) (g214 : G 214 = F214) : ∀ ds rs, F213 ds = some rs → ∃ fuel, run G fuel T213 ds = some (0, rs) := by
  intro ds rs h
  unfold F213 at h
  obtain ⟨⟨B, r⟩, hb, h⟩ := Option.bind_eq_some_iff.1 h
  rw [dB_inv hb]
  dsimp only at h
  split at h
  case isFalse => cases h
  rename_i hc
  simp only [Option.some.injEq] at h
  subst h
  have hs := hc.choose_spec
  generalize hc.choose = c at *
  clear hc
  obtain ⟨hr, hc⟩ := hs
  subst hr
  clear hb
  have hv := F195_m hc
  have h7 := F207_m hc
  have h2 := fun h => F203_m (B := B) (validB_200 h)
  have h2c := fun h => validB_200 (B := B) h
  obtain ⟨vs, ts, ss, fm, bn, ws, x, y, z⟩ := B
  unfold clsP
  unfold colP at h7
  simp only [bd, List.cons_append, List.nil_append] at hv h7 h2 h2c ⊢
  generalize validB ⟨vs, ts, ss, fm, bn, ws, x, y, z⟩ = val at *
  have hfu : ∃ fuel, fuel = 2000 := ⟨_, rfl⟩
  obtain ⟨fuel, hfu⟩ := hfu
  refine ⟨fuel, ?_⟩
  have fr := F19_range c
  rw [eq213]
  unfold S213
  cases val
  case false =>
    rw [if_neg (by simp)] at h7
    rw [Bool.false_and, if_neg (by simp), il_nil]
    repeat' first
      | with_reducible refine st_ift ?_
      | with_reducible refine st_iff ?_
      | ((with_reducible apply st_ift2); exact rfl)
      | ((with_reducible apply st_iff2); exact rfl)
      | ((with_reducible apply st_call); exact g207; exact rfl; exact h7; exact rfl)
      | ((with_reducible apply st_callt); assumption; exact rfl; exact rfl; assumption)
      | ((with_reducible apply st_callf); assumption; exact rfl; exact rfl; assumption)
      | ((with_reducible apply st_call); assumption; exact rfl; exact rfl; exact rfl)
      | ((with_reducible apply st_wide); exact rfl; exact rfl)
      | ((with_reducible apply st_skip); exact rfl)
      | ((with_reducible apply st_t); exact rfl; exact rfl)
      | ((with_reducible apply st_f); exact rfl; exact rfl)
      | ((with_reducible apply st_t); exact rfl; assumption)
      | ((with_reducible apply st_f); exact rfl; assumption)
      | ((with_reducible apply st_some); exact rfl)
      | exact rfl
  case true =>
    rw [if_pos rfl] at h7
    rw [Bool.true_and]
    have hl := outN_len ss ss.length
    have h4 := F214_m (l := outN ss ss.length) (c := c) (by rw [hl]; have := h2c rfl; omega)
    rw [hl] at h4
    cases hr : rangeP c
    · rw [hr] at fr
      rw [if_neg (by simp), il_nil]
      repeat' first
        | with_reducible refine st_ift ?_
        | with_reducible refine st_iff ?_
        | ((with_reducible apply st_ift2); exact rfl)
        | ((with_reducible apply st_iff2); exact rfl)
        | ((with_reducible apply st_call); exact g207; exact rfl; exact h7; exact rfl)
        | ((with_reducible apply st_call); exact g19; exact rfl; exact fr; exact rfl)
        | ((with_reducible apply st_callt); assumption; exact rfl; exact rfl; assumption)
        | ((with_reducible apply st_callf); assumption; exact rfl; exact rfl; assumption)
        | ((with_reducible apply st_call); assumption; exact rfl; exact rfl; exact rfl)
        | ((with_reducible apply st_wide); exact rfl; exact rfl)
        | ((with_reducible apply st_skip); exact rfl)
        | ((with_reducible apply st_t); exact rfl; exact rfl)
        | ((with_reducible apply st_f); exact rfl; exact rfl)
        | ((with_reducible apply st_t); exact rfl; assumption)
        | ((with_reducible apply st_f); exact rfl; assumption)
        | ((with_reducible apply st_some); exact rfl)
        | exact rfl
    · rw [hr] at fr
      rw [if_pos rfl]
      repeat' first
        | with_reducible refine st_ift ?_
        | with_reducible refine st_iff ?_
        | ((with_reducible apply st_ift2); exact rfl)
        | ((with_reducible apply st_iff2); exact rfl)
        | ((with_reducible apply st_call); exact g207; exact rfl; exact h7; exact rfl)
        | ((with_reducible apply st_call); exact g19; exact rfl; exact fr; exact rfl)
        | ((with_reducible apply st_call); exact g214; exact rfl; exact h4; exact rfl)
        | ((with_reducible apply st_callt); assumption; exact rfl; exact rfl; assumption)
        | ((with_reducible apply st_callf); assumption; exact rfl; exact rfl; assumption)
        | ((with_reducible apply st_call); assumption; exact rfl; exact rfl; exact rfl)
        | ((with_reducible apply st_wide); exact rfl; exact rfl)
        | ((with_reducible apply st_skip); exact rfl)
        | ((with_reducible apply st_t); exact rfl; exact rfl)
        | ((with_reducible apply st_f); exact rfl; exact rfl)
        | ((with_reducible apply st_t); exact rfl; assumption)
        | ((with_reducible apply st_f); exact rfl; assumption)
        | ((with_reducible apply st_some); exact rfl)
        | exact rfl
set_option maxHeartbeats 4000000 in
theorem run213s {G : Told} (g19 : G 19 = F19) (g195 : G 195 = F195) (g203 : G 203 = F203) : ∀ ds rs, F213 ds = some rs → ∃ fuel, run G fuel T213s ds = some (0, rs) := by
  intro ds rs h
  unfold F213 at h
  obtain ⟨⟨B, r⟩, hb, h⟩ := Option.bind_eq_some_iff.1 h
  rw [dB_inv hb]
  dsimp only at h
  split at h
  case isFalse => cases h
  rename_i hc
  simp only [Option.some.injEq] at h
  subst h
  have hs := hc.choose_spec
  generalize hc.choose = c at *
  clear hc
  obtain ⟨hr, hc⟩ := hs
  subst hr
  clear hb
  have hv := F195_m hc
  have h7 := F207_m hc
  have h2 := fun h => F203_m (B := B) (validB_200 h)
  have h2c := fun h => validB_200 (B := B) h
  obtain ⟨vs, ts, ss, fm, bn, ws, x, y, z⟩ := B
  unfold clsP
  unfold colP at h7
  simp only [bd, List.cons_append, List.nil_append] at hv h7 h2 h2c ⊢
  generalize validB ⟨vs, ts, ss, fm, bn, ws, x, y, z⟩ = val at *
  have hfu : ∃ fuel, fuel = 2000 := ⟨_, rfl⟩
  obtain ⟨fuel, hfu⟩ := hfu
  refine ⟨fuel, ?_⟩
  have fr := F19_range c
  rw [eq213s]
  unfold S213s
  cases val
  case false =>
    rw [Bool.false_and, if_neg (by simp), il_nil]
    repeat' first
      | with_reducible refine st_ift ?_
      | with_reducible refine st_iff ?_
      | ((with_reducible apply st_ift2); exact rfl)
      | ((with_reducible apply st_iff2); exact rfl)
      | ((with_reducible apply st_call); exact g195; exact rfl; exact hv; exact rfl)
      | ((with_reducible apply st_callt); assumption; exact rfl; exact rfl; assumption)
      | ((with_reducible apply st_callf); assumption; exact rfl; exact rfl; assumption)
      | ((with_reducible apply st_call); assumption; exact rfl; exact rfl; exact rfl)
      | ((with_reducible apply st_wide); exact rfl; exact rfl)
      | ((with_reducible apply st_skip); exact rfl)
      | ((with_reducible apply st_t); exact rfl; exact rfl)
      | ((with_reducible apply st_f); exact rfl; exact rfl)
      | ((with_reducible apply st_t); exact rfl; assumption)
      | ((with_reducible apply st_f); exact rfl; assumption)
      | ((with_reducible apply st_some); exact rfl)
      | exact rfl
  case true =>
    rw [Bool.true_and]
    have h2 := h2 rfl
    have h200 := h2c rfl
    cases hr : rangeP c
    · rw [hr] at fr
      rw [if_neg (by simp), il_nil]
      repeat' first
        | with_reducible refine st_ift ?_
        | with_reducible refine st_iff ?_
        | ((with_reducible apply st_ift2); exact rfl)
        | ((with_reducible apply st_iff2); exact rfl)
        | ((with_reducible apply st_call); exact g195; exact rfl; exact hv; exact rfl)
        | ((with_reducible apply st_call); exact g19; exact rfl; exact fr; exact rfl)
        | ((with_reducible apply st_callt); assumption; exact rfl; exact rfl; assumption)
        | ((with_reducible apply st_callf); assumption; exact rfl; exact rfl; assumption)
        | ((with_reducible apply st_call); assumption; exact rfl; exact rfl; exact rfl)
        | ((with_reducible apply st_wide); exact rfl; exact rfl)
        | ((with_reducible apply st_skip); exact rfl)
        | ((with_reducible apply st_t); exact rfl; exact rfl)
        | ((with_reducible apply st_f); exact rfl; exact rfl)
        | ((with_reducible apply st_t); exact rfl; assumption)
        | ((with_reducible apply st_f); exact rfl; assumption)
        | ((with_reducible apply st_some); exact rfl)
        | exact rfl
    · rw [hr] at fr
      rw [if_pos rfl]
      have hl := outN_len ss ss.length
      generalize outN ss ss.length = l at *
      have hn := len_il (l := l)
      rw [← hl]
      clear h7
      have hloop : iter (tbody 2 (S213sL0 G (.int c) [il l] (.int (l.length : Int)))) fuel [.lst [], .int 0] = some (0, [il (clsN l c l.length), .int (l.length : Int), .bool false]) := by
        have h1 := iter_to (body := tbody 2 (S213sL0 G (.int c) [il l] (.int (l.length : Int)))) (n := l.length) (f := fuel) (l := 0) (ds := [il (clsN l c l.length), .int (l.length : Int), .bool false])
          (fun i => [il (clsN l c i), .int (i : Int)]) (by omega) ?_ ?_
        · simpa [clsN, il_nil] using h1
        · intro i hi
          refine tb rfl ?_
          have h0 : decide ((i : Int) < (l.length : Int)) = true := by simpa using hi
          have hx := idx_il hi
          have ha := add1n (i := i) (by omega)
          have hle := clsN_len l c i
          have hp := app_il (l := clsN l c i) (m := [(i : Int)]) (by simp; omega)
          have hq : (.lst [.int (i : Int)] : D) = il [(i : Int)] := by unfold il; rfl
          rw [← hq] at hp
          simp only [clsN, getD_lt hi]
          generalize clsN l c i = o at hp ⊢
          cases he : l[i] == c
          · rw [if_neg (by simp)]
            unfold S213sL0
            repeat' first
              | with_reducible refine st_ift ?_
              | with_reducible refine st_iff ?_
              | ((with_reducible apply st_ift2); exact rfl)
              | ((with_reducible apply st_iff2); exact rfl)
              | (with_reducible refine st_join (ds := [il o]) ?_ ?_ ?_)
              | ((with_reducible apply st_some); exact hx)
              | ((with_reducible apply st_some); exact ha)
              | ((with_reducible apply st_callt); assumption; exact rfl; exact rfl; assumption)
              | ((with_reducible apply st_callf); assumption; exact rfl; exact rfl; assumption)
              | ((with_reducible apply st_call); assumption; exact rfl; exact rfl; exact rfl)
              | ((with_reducible apply st_wide); exact rfl; exact rfl)
              | ((with_reducible apply st_skip); exact rfl)
              | ((with_reducible apply st_t); exact rfl; exact rfl)
              | ((with_reducible apply st_f); exact rfl; exact rfl)
              | ((with_reducible apply st_t); exact rfl; assumption)
              | ((with_reducible apply st_f); exact rfl; assumption)
              | ((with_reducible apply st_some); exact rfl)
              | exact rfl
          · rw [if_pos rfl]
            unfold S213sL0
            repeat' first
              | with_reducible refine st_ift ?_
              | with_reducible refine st_iff ?_
              | ((with_reducible apply st_ift2); exact rfl)
              | ((with_reducible apply st_iff2); exact rfl)
              | (with_reducible refine st_join (ds := [il (o ++ [(i : Int)])]) ?_ ?_ ?_)
              | ((with_reducible apply st_some); exact hx)
              | ((with_reducible apply st_some); exact ha)
              | ((with_reducible apply st_some); exact hp)
              | ((with_reducible apply st_callt); assumption; exact rfl; exact rfl; assumption)
              | ((with_reducible apply st_callf); assumption; exact rfl; exact rfl; assumption)
              | ((with_reducible apply st_call); assumption; exact rfl; exact rfl; exact rfl)
              | ((with_reducible apply st_wide); exact rfl; exact rfl)
              | ((with_reducible apply st_skip); exact rfl)
              | ((with_reducible apply st_t); exact rfl; exact rfl)
              | ((with_reducible apply st_f); exact rfl; exact rfl)
              | ((with_reducible apply st_t); exact rfl; assumption)
              | ((with_reducible apply st_f); exact rfl; assumption)
              | ((with_reducible apply st_some); exact rfl)
              | exact rfl
        · refine tb rfl ?_
          have h0 : decide ((l.length : Int) < (l.length : Int)) = false := by simp
          unfold S213sL0
          repeat' first
            | with_reducible refine st_ift ?_
            | with_reducible refine st_iff ?_
            | ((with_reducible apply st_ift2); exact rfl)
            | ((with_reducible apply st_iff2); exact rfl)
            | ((with_reducible apply st_f); exact rfl; exact h0)
            | ((with_reducible apply st_callt); assumption; exact rfl; exact rfl; assumption)
            | ((with_reducible apply st_callf); assumption; exact rfl; exact rfl; assumption)
            | ((with_reducible apply st_call); assumption; exact rfl; exact rfl; exact rfl)
            | ((with_reducible apply st_wide); exact rfl; exact rfl)
            | ((with_reducible apply st_skip); exact rfl)
            | ((with_reducible apply st_t); exact rfl; exact rfl)
            | ((with_reducible apply st_f); exact rfl; exact rfl)
            | ((with_reducible apply st_t); exact rfl; assumption)
            | ((with_reducible apply st_f); exact rfl; assumption)
            | ((with_reducible apply st_some); exact rfl)
            | exact rfl
      repeat' first
        | with_reducible refine st_ift ?_
        | with_reducible refine st_iff ?_
        | ((with_reducible apply st_ift2); exact rfl)
        | ((with_reducible apply st_iff2); exact rfl)
        | ((with_reducible apply st_join); exact hloop; exact rfl)
        | ((with_reducible apply st_call); exact g195; exact rfl; exact hv; exact rfl)
        | ((with_reducible apply st_call); exact g19; exact rfl; exact fr; exact rfl)
        | ((with_reducible apply st_call); exact g203; exact rfl; exact h2; exact rfl)
        | ((with_reducible apply st_some); exact hn)
        | ((with_reducible apply st_callt); assumption; exact rfl; exact rfl; assumption)
        | ((with_reducible apply st_callf); assumption; exact rfl; exact rfl; assumption)
        | ((with_reducible apply st_call); assumption; exact rfl; exact rfl; exact rfl)
        | ((with_reducible apply st_wide); exact rfl; exact rfl)
        | ((with_reducible apply st_skip); exact rfl)
        | ((with_reducible apply st_t); exact rfl; exact rfl)
        | ((with_reducible apply st_f); exact rfl; exact rfl)
        | ((with_reducible apply st_t); exact rfl; assumption)
        | ((with_reducible apply st_f); exact rfl; assumption)
        | ((with_reducible apply st_some); exact rfl)
        | exact rfl
set_option maxHeartbeats 4000000 in
theorem run215 {G : Told} (g100 : G 100 = F100) (g102 : G 102 = F102) (g104 : G 104 = F104) (g182 : G 182 = F182) (g186 : G 186 = F186) (g190 : G 190 = F190) (g193 : G 193 = F193) (g213 : G 213 = F213) : ∀ ds rs, F215 ds = some rs → ∃ fuel, run G fuel T215 ds = some (0, rs) := by
  intro ds rs h
  unfold F215 at h
  obtain ⟨⟨B, r⟩, hb, h⟩ := Option.bind_eq_some_iff.1 h
  rw [dB_inv hb]
  dsimp only at h
  split at h
  case isFalse => cases h
  rename_i hc
  simp only [Option.some.injEq] at h
  subst h
  obtain ⟨c, hr, hc⟩ := hc
  subst hr
  have z1 := F182_m hc
  have t1 := F186_m (B := B)
  have q1 := F190_m (B := B)
  have r1 := F213_m (B := B) (c := c)
  have m1 := F193_m (B := B)
  have hw : ∃ l w, clsP B c = [il l, .bool w] ∧ l.length ≤ 1048576 := by
    unfold clsP
    split
    · rename_i hv
      simp only [Bool.and_eq_true] at hv
      have h1 := validB_200 hv.1
      have h2 := clsN_len (outN B.ss B.ss.length) c B.ss.length
      exact ⟨_, _, rfl, by omega⟩
    · exact ⟨_, _, rfl, by simp⟩
  obtain ⟨l, w, hw, hu⟩ := hw
  rw [hw] at r1
  have hmk : 0 < mkB B := by unfold mkB; omega
  generalize mkB B = km at hmk m1
  generalize szB B = n at *
  obtain ⟨vs, ts, ss, fm, bn, ws, x, y, z⟩ := B
  simp only [bd, List.cons_append, List.nil_append] at z1 t1 q1 r1 m1 ⊢
  refine ⟨0, ?_⟩
  rw [eq215]
  unfold S215
  by_cases hn : n ≤ 1048576
  case neg =>
    rw [szP_neg hn] at z1
    repeat' first
      | with_reducible refine st_ift ?_
      | with_reducible refine st_iff ?_
      | ((with_reducible apply st_ift2); exact rfl)
      | ((with_reducible apply st_iff2); exact rfl)
      | ((with_reducible apply st_call); exact g182; exact rfl; exact z1; exact rfl)
      | ((with_reducible apply st_callt); assumption; exact rfl; exact rfl; assumption)
      | ((with_reducible apply st_callf); assumption; exact rfl; exact rfl; assumption)
      | ((with_reducible apply st_call); assumption; exact rfl; exact rfl; exact rfl)
      | ((with_reducible apply st_wide); exact rfl; exact rfl)
      | ((with_reducible apply st_skip); exact rfl)
      | ((with_reducible apply st_t); exact rfl; exact rfl)
      | ((with_reducible apply st_f); exact rfl; exact rfl)
      | ((with_reducible apply st_t); exact rfl; assumption)
      | ((with_reducible apply st_f); exact rfl; assumption)
      | ((with_reducible apply st_some); exact rfl)
      | exact rfl
  rw [szP_pos hn] at z1
  have d1 : decide ((1048576 : Int) - (n : Nat) < 0) = false := by simp; omega
  have t1 := t1 hn
  have q1 := q1 hn
  have r1 := r1 hn
  obtain ⟨ma, mb, mc, md, m1⟩ := m1 hn
  have q3 := F100_il hu
  have m3 := F102_il (m := 1) hu (by omega) (by omega)
  have n3 := F104_mk (m := 1) hu (by omega) (by omega)
  have d3 : decide (km < 0) = false := by simp; omega
  have d4 : decide ((1 : Int) + l.length < 0) = false := by simp; omega
  have d5 : ((1 : Int) + l.length != 1 + l.length) = false := by simp
  cases w
  · repeat' first
      | with_reducible refine st_ift ?_
      | with_reducible refine st_iff ?_
      | ((with_reducible apply st_ift2); exact rfl)
      | ((with_reducible apply st_iff2); exact rfl)
      | ((with_reducible apply st_call); exact g182; exact rfl; exact z1; exact rfl)
      | ((with_reducible apply st_call); exact g186; exact rfl; exact t1; exact rfl)
      | ((with_reducible apply st_call); exact g213; exact rfl; exact r1; exact rfl)
      | ((with_reducible apply st_call); exact g190; exact rfl; exact q1; exact rfl)
      | ((with_reducible apply st_call); exact g100; exact rfl; exact q3; exact rfl)
      | ((with_reducible apply st_call); exact g102; exact rfl; exact m3; exact rfl)
      | ((with_reducible apply st_call); exact g104; exact rfl; exact n3; exact rfl)
      | ((with_reducible apply st_call); exact g193; exact rfl; exact m1; exact rfl)
      | ((with_reducible apply st_callt); assumption; exact rfl; exact rfl; assumption)
      | ((with_reducible apply st_callf); assumption; exact rfl; exact rfl; assumption)
      | ((with_reducible apply st_call); assumption; exact rfl; exact rfl; exact rfl)
      | ((with_reducible apply st_wide); exact rfl; exact rfl)
      | ((with_reducible apply st_skip); exact rfl)
      | ((with_reducible apply st_t); exact rfl; exact rfl)
      | ((with_reducible apply st_f); exact rfl; exact rfl)
      | ((with_reducible apply st_t); exact rfl; assumption)
      | ((with_reducible apply st_f); exact rfl; assumption)
      | ((with_reducible apply st_some); exact rfl)
      | exact rfl
  · repeat' first
      | with_reducible refine st_ift ?_
      | with_reducible refine st_iff ?_
      | ((with_reducible apply st_ift2); exact rfl)
      | ((with_reducible apply st_iff2); exact rfl)
      | ((with_reducible apply st_call); exact g182; exact rfl; exact z1; exact rfl)
      | ((with_reducible apply st_call); exact g186; exact rfl; exact t1; exact rfl)
      | ((with_reducible apply st_call); exact g213; exact rfl; exact r1; exact rfl)
      | ((with_reducible apply st_call); exact g190; exact rfl; exact q1; exact rfl)
      | ((with_reducible apply st_call); exact g100; exact rfl; exact q3; exact rfl)
      | ((with_reducible apply st_call); exact g102; exact rfl; exact m3; exact rfl)
      | ((with_reducible apply st_call); exact g104; exact rfl; exact n3; exact rfl)
      | ((with_reducible apply st_call); exact g193; exact rfl; exact m1; exact rfl)
      | ((with_reducible apply st_callt); assumption; exact rfl; exact rfl; assumption)
      | ((with_reducible apply st_callf); assumption; exact rfl; exact rfl; assumption)
      | ((with_reducible apply st_call); assumption; exact rfl; exact rfl; exact rfl)
      | ((with_reducible apply st_wide); exact rfl; exact rfl)
      | ((with_reducible apply st_skip); exact rfl)
      | ((with_reducible apply st_t); exact rfl; exact rfl)
      | ((with_reducible apply st_f); exact rfl; exact rfl)
      | ((with_reducible apply st_t); exact rfl; assumption)
      | ((with_reducible apply st_f); exact rfl; assumption)
      | ((with_reducible apply st_some); exact rfl)
      | exact rfl

end Vs
