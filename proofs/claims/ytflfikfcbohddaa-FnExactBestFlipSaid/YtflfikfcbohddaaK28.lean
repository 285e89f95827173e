/-
  Pairs of places, flips of edges, what is gained.
-/
import Derived.Test.YtflfikfcbohddaaK27
namespace Vs
open Go Go.Sort

def okP (n : Nat) (ts : List (List Int)) (p q : Int) : Bool := validP n ts && (inr n p && inr n q && (p != q))
def oneI (ts : List (List Int)) (p q : Int) : Int := if goesA ts p q ((atL ts p q).getD 0 0) = true then (atL ts p q).getD 0 0 else (atL ts p q).getD 1 0
def twoI (ts : List (List Int)) (p q : Int) : Int := if goesA ts p q ((atL ts p q).getD 0 0) = true then (atL ts p q).getD 1 0 else (atL ts p q).getD 0 0
def flC (ts : List (List Int)) (p q : Int) : Int := thirdP (ts.getD (oneI ts p q).toNat []) p q
def flD (ts : List (List Int)) (p q : Int) : Int := thirdP (ts.getD (twoI ts p q).toNat []) p q
def flipQ (ts : List (List Int)) (p q : Int) : Bool := (flC ts p q != flD ts p q) && decide ((atL ts (flC ts p q) (flD ts p q)).length = 0)
def flipB (ts : List (List Int)) (p q : Int) : Bool := decide ((atL ts p q).length = 2) && flipQ ts p q
def atV (vs : List V3) (p : Int) : V3 := vs.getD p.toNat ⟨0, 0, 0⟩
def lenP (vs : List V3) (p q : Int) : Nat := longP (fsub .f32 (atV vs p).x (atV vs q).x) (fsub .f32 (atV vs p).y (atV vs q).y) (fsub .f32 (atV vs p).z (atV vs q).z)
def gnP (vs : List V3) (ts : List (List Int)) (p q : Int) : Nat := fsub .f32 (lenP vs p q) (lenP vs (flC ts p q) (flD ts p q))

noncomputable def F415 : List D → Option (List D)
  | [a, b, .int p, .int q] => (dV a).bind fun vs => (dT b).bind fun ts => if okP vs.length ts p q = true then some (if (atL ts p q).length = 2 then [.int (oneI ts p q), .int (twoI ts p q), .bool (flipQ ts p q)] else [.int 0, .int 0, .bool false]) else none
  | _ => none
theorem F415_m {vs : List V3} {ts : List (List Int)} {p q : Int} (h : okP vs.length ts p q = true) : F415 [vl vs, tl ts, .int p, .int q] = some (if (atL ts p q).length = 2 then [.int (oneI ts p q), .int (twoI ts p q), .bool (flipQ ts p q)] else [.int 0, .int 0, .bool false]) := by
  simp only [F415, dV_vl, dT_tl, Option.bind_some]
  rw [if_pos h]
noncomputable def F406 : List D → Option (List D)
  | [a, b, .int p, .int q] => (dV a).bind fun vs => (dT b).bind fun ts => if okP vs.length ts p q = true then some (if flipB ts p q = true then [.int (oneI ts p q), .int (twoI ts p q), .int (flC ts p q), .int (flD ts p q), .bool true] else [.int 0, .int 0, .int 0, .int 0, .bool false]) else none
  | _ => none
theorem F406_m {vs : List V3} {ts : List (List Int)} {p q : Int} (h : okP vs.length ts p q = true) : F406 [vl vs, tl ts, .int p, .int q] = some (if flipB ts p q = true then [.int (oneI ts p q), .int (twoI ts p q), .int (flC ts p q), .int (flD ts p q), .bool true] else [.int 0, .int 0, .int 0, .int 0, .bool false]) := by
  simp only [F406, dV_vl, dT_tl, Option.bind_some]
  rw [if_pos h]
noncomputable def F417 : List D → Option (List D)
  | [a, b, .int p, .int q] => (dV a).bind fun vs => (dT b).bind fun ts => if okP vs.length ts p q = true then some (if flipB ts p q = true then [.flt (gnP vs ts p q), .bool true] else [.flt 0, .bool false]) else none
  | _ => none
theorem F417_m {vs : List V3} {ts : List (List Int)} {p q : Int} (h : okP vs.length ts p q = true) : F417 [vl vs, tl ts, .int p, .int q] = some (if flipB ts p q = true then [.flt (gnP vs ts p q), .bool true] else [.flt 0, .bool false]) := by
  simp only [F417, dV_vl, dT_tl, Option.bind_some]
  rw [if_pos h]
def T415 : T :=
(.call none 168 [(.v 0), (.v 1), (.v 2), (.v 3)] 1 <|
(.op none .len [(.v 4)] <|
(.op none (.icm .neq) [(.v 5), (.c (.int 2))] <|
(.ite (.v 6)
  (.out 0 [(.c (.int 0)), (.c (.int 0)), (.c (.bool false))])
  (.op none .idx [(.v 4), (.c (.int 0))] <|
  (.op none .idx [(.v 4), (.c (.int 0))] <|
  (.op none .idx [(.v 4), (.c (.int 1))] <|
  (.op none .idx [(.v 4), (.c (.int 1))] <|
  (.op none .idx [(.v 1), (.v 8)] <|
  (.call none 407 [(.v 11), (.v 2), (.v 3)] 1 <|
  (.op none .bnot [(.v 12)] <|
  (.join 2
    (.ite (.v 13)
      (.op none .idx [(.v 4), (.c (.int 1))] <|
      (.op none .idx [(.v 4), (.c (.int 1))] <|
      (.op none .idx [(.v 4), (.c (.int 0))] <|
      (.op none .idx [(.v 4), (.c (.int 0))] <|
      (.out 0 [(.v 15), (.v 17)])))))
      (.out 0 [(.v 8), (.v 10)]))
  (.op none .idx [(.v 1), (.v 14)] <|
  (.call none 408 [(.v 16), (.v 2), (.v 3)] 1 <|
  (.op none .idx [(.v 1), (.v 15)] <|
  (.call none 408 [(.v 18), (.v 2), (.v 3)] 1 <|
  (.op none (.icm .neq) [(.v 17), (.v 19)] <|
  (.op (some ((.v 20), true)) .id [(.v 17)] <|
  (.op (some ((.v 20), true)) .id [(.v 19)] <|
  (.call (some ((.v 20), true)) 168 [(.v 0), (.v 1), (.v 21), (.v 22)] 1 <|
  (.op (some ((.v 20), true)) .len [(.v 23)] <|
  (.op (some ((.v 20), true)) (.icm .eql) [(.v 24), (.c (.int 0))] <|
  (.op none .pick [(.v 20), (.v 25), (.c (.bool false))] <|
  (.out 0 [(.v 14), (.v 15), (.v 26)]))))))))))))))))))))))))
def S415 (G : Told) (_fuel : Nat) (x0 x1 x2 x3 : D) : Option (Nat × List D) :=
  (gcall G none 168 [x0, x1, x2, x3] 1).bind fun e4 =>
  (gev none .len [(e4.getD 0 .undef)]).bind fun x5 =>
  (gev none (.icm .neq) [x5, (.int 2)]).bind fun x6 =>
  tif x6 (
    some (0, [(.int 0), (.int 0), (.bool false)])) (
    (gev none .idx [(e4.getD 0 .undef), (.int 0)]).bind fun _x7 =>
    (gev none .idx [(e4.getD 0 .undef), (.int 0)]).bind fun x8 =>
    (gev none .idx [(e4.getD 0 .undef), (.int 1)]).bind fun _x9 =>
    (gev none .idx [(e4.getD 0 .undef), (.int 1)]).bind fun x10 =>
    (gev none .idx [x1, x8]).bind fun x11 =>
    (gcall G none 407 [x11, x2, x3] 1).bind fun e12 =>
    (gev none .bnot [(e12.getD 0 .undef)]).bind fun x13 =>
    tjoin 2 (
      tif x13 (
        (gev none .idx [(e4.getD 0 .undef), (.int 1)]).bind fun _x14 =>
        (gev none .idx [(e4.getD 0 .undef), (.int 1)]).bind fun x15 =>
        (gev none .idx [(e4.getD 0 .undef), (.int 0)]).bind fun _x16 =>
        (gev none .idx [(e4.getD 0 .undef), (.int 0)]).bind fun x17 =>
        some (0, [x15, x17])) (
        some (0, [x8, x10]))) fun e14 =>
    (gev none .idx [x1, (e14.getD 0 .undef)]).bind fun x16 =>
    (gcall G none 408 [x16, x2, x3] 1).bind fun e17 =>
    (gev none .idx [x1, (e14.getD 1 .undef)]).bind fun x18 =>
    (gcall G none 408 [x18, x2, x3] 1).bind fun e19 =>
    (gev none (.icm .neq) [(e17.getD 0 .undef), (e19.getD 0 .undef)]).bind fun x20 =>
    (gev (some (x20, true)) .id [(e17.getD 0 .undef)]).bind fun x21 =>
    (gev (some (x20, true)) .id [(e19.getD 0 .undef)]).bind fun x22 =>
    (gcall G (some (x20, true)) 168 [x0, x1, x21, x22] 1).bind fun e23 =>
    (gev (some (x20, true)) .len [(e23.getD 0 .undef)]).bind fun x24 =>
    (gev (some (x20, true)) (.icm .eql) [x24, (.int 0)]).bind fun x25 =>
    (gev none .pick [x20, x25, (.bool false)]).bind fun x26 =>
    some (0, [(e14.getD 0 .undef), (e14.getD 1 .undef), x26]))
theorem eq415 {G : Told} {fuel : Nat} (x0 x1 x2 x3 : D) : run G fuel T415 [x0, x1, x2, x3] = S415 G fuel x0 x1 x2 x3 := by
  rw [run_eq]; kernel_rfl

def T406 : T :=
(.call none 401 [(.v 0), (.v 1)] 2 <|
(.call none 400 [(.v 2), (.v 3)] 2 <|
(.op none .mkagg [(.v 6), (.v 7)] <|
(.op none .mget [(.v 4), (.v 8), (.c (.lst []))] <|
(.op none .len [(.v 9)] <|
(.op none (.icm .neq) [(.v 10), (.c (.int 2))] <|
(.ite (.v 11)
  (.out 0 [(.c (.int 0)), (.c (.int 0)), (.c (.int 0)), (.c (.int 0)), (.c (.bool false))])
  (.op none .idx [(.v 9), (.c (.int 0))] <|
  (.op none .idx [(.v 9), (.c (.int 0))] <|
  (.op none .idx [(.v 9), (.c (.int 1))] <|
  (.op none .idx [(.v 9), (.c (.int 1))] <|
  (.op none .idx [(.v 1), (.v 13)] <|
  (.call none 407 [(.v 16), (.v 2), (.v 3)] 1 <|
  (.op none .bnot [(.v 17)] <|
  (.join 2
    (.ite (.v 18)
      (.out 0 [(.v 15), (.v 13)])
      (.out 0 [(.v 13), (.v 15)]))
  (.op none .idx [(.v 1), (.v 19)] <|
  (.call none 408 [(.v 21), (.v 6), (.v 7)] 1 <|
  (.op none .idx [(.v 1), (.v 20)] <|
  (.call none 408 [(.v 23), (.v 6), (.v 7)] 1 <|
  (.op none (.icm .eql) [(.v 22), (.v 24)] <|
  (.op (some ((.v 25), false)) .id [(.v 22)] <|
  (.op (some ((.v 25), false)) .id [(.v 24)] <|
  (.call (some ((.v 25), false)) 400 [(.v 26), (.v 27)] 2 <|
  (.op (some ((.v 25), false)) .mkagg [(.v 28), (.v 29)] <|
  (.op (some ((.v 25), false)) .mget [(.v 4), (.v 30), (.c (.lst []))] <|
  (.op (some ((.v 25), false)) .len [(.v 31)] <|
  (.op (some ((.v 25), false)) (.icm .gtr) [(.v 32), (.c (.int 0))] <|
  (.op none .pick [(.v 25), (.c (.bool true)), (.v 33)] <|
  (.ite (.v 34)
    (.out 0 [(.c (.int 0)), (.c (.int 0)), (.c (.int 0)), (.c (.int 0)), (.c (.bool false))])
    (.out 0 [(.v 19), (.v 20), (.v 22), (.v 24), (.c (.bool true))]))))))))))))))))))))))))))))))
def S406 (G : Told) (_fuel : Nat) (x0 x1 x2 x3 : D) : Option (Nat × List D) :=
  (gcall G none 401 [x0, x1] 2).bind fun e4 =>
  (gcall G none 400 [x2, x3] 2).bind fun e6 =>
  (gev none .mkagg [(e6.getD 0 .undef), (e6.getD 1 .undef)]).bind fun x8 =>
  (gev none .mget [(e4.getD 0 .undef), x8, (.lst [])]).bind fun x9 =>
  (gev none .len [x9]).bind fun x10 =>
  (gev none (.icm .neq) [x10, (.int 2)]).bind fun x11 =>
  tif x11 (
    some (0, [(.int 0), (.int 0), (.int 0), (.int 0), (.bool false)])) (
    (gev none .idx [x9, (.int 0)]).bind fun _x12 =>
    (gev none .idx [x9, (.int 0)]).bind fun x13 =>
    (gev none .idx [x9, (.int 1)]).bind fun _x14 =>
    (gev none .idx [x9, (.int 1)]).bind fun x15 =>
    (gev none .idx [x1, x13]).bind fun x16 =>
    (gcall G none 407 [x16, x2, x3] 1).bind fun e17 =>
    (gev none .bnot [(e17.getD 0 .undef)]).bind fun x18 =>
    tjoin 2 (
      tif x18 (
        some (0, [x15, x13])) (
        some (0, [x13, x15]))) fun e19 =>
    (gev none .idx [x1, (e19.getD 0 .undef)]).bind fun x21 =>
    (gcall G none 408 [x21, (e6.getD 0 .undef), (e6.getD 1 .undef)] 1).bind fun e22 =>
    (gev none .idx [x1, (e19.getD 1 .undef)]).bind fun x23 =>
    (gcall G none 408 [x23, (e6.getD 0 .undef), (e6.getD 1 .undef)] 1).bind fun e24 =>
    (gev none (.icm .eql) [(e22.getD 0 .undef), (e24.getD 0 .undef)]).bind fun x25 =>
    (gev (some (x25, false)) .id [(e22.getD 0 .undef)]).bind fun x26 =>
    (gev (some (x25, false)) .id [(e24.getD 0 .undef)]).bind fun x27 =>
    (gcall G (some (x25, false)) 400 [x26, x27] 2).bind fun e28 =>
    (gev (some (x25, false)) .mkagg [(e28.getD 0 .undef), (e28.getD 1 .undef)]).bind fun x30 =>
    (gev (some (x25, false)) .mget [(e4.getD 0 .undef), x30, (.lst [])]).bind fun x31 =>
    (gev (some (x25, false)) .len [x31]).bind fun x32 =>
    (gev (some (x25, false)) (.icm .gtr) [x32, (.int 0)]).bind fun x33 =>
    (gev none .pick [x25, (.bool true), x33]).bind fun x34 =>
    tif x34 (
      some (0, [(.int 0), (.int 0), (.int 0), (.int 0), (.bool false)])) (
      some (0, [(e19.getD 0 .undef), (e19.getD 1 .undef), (e22.getD 0 .undef), (e24.getD 0 .undef), (.bool true)])))
theorem eq406 {G : Told} {fuel : Nat} (x0 x1 x2 x3 : D) : run G fuel T406 [x0, x1, x2, x3] = S406 G fuel x0 x1 x2 x3 := by
  rw [run_eq]; kernel_rfl

def T417 : T :=
(.call none 406 [(.v 0), (.v 1), (.v 2), (.v 3)] 5 <|
(.op none .bnot [(.v 8)] <|
(.ite (.v 9)
  (.out 0 [(.c (.flt 0)), (.c (.bool false))])
  (.op none .idx [(.v 0), (.v 2)] <|
  (.op none (.proj 0) [(.v 10)] <|
  (.op none (.proj 1) [(.v 10)] <|
  (.op none (.proj 2) [(.v 10)] <|
  (.op none .idx [(.v 0), (.v 3)] <|
  (.op none (.proj 0) [(.v 14)] <|
  (.op none (.proj 1) [(.v 14)] <|
  (.op none (.proj 2) [(.v 14)] <|
  (.call none 13 [(.v 11), (.v 12), (.v 13), (.v 15), (.v 16), (.v 17)] 3 <|
  (.call none 15 [(.v 18), (.v 19), (.v 20)] 1 <|
  (.op none .idx [(.v 0), (.v 6)] <|
  (.op none (.proj 0) [(.v 22)] <|
  (.op none (.proj 1) [(.v 22)] <|
  (.op none (.proj 2) [(.v 22)] <|
  (.op none .idx [(.v 0), (.v 7)] <|
  (.op none (.proj 0) [(.v 26)] <|
  (.op none (.proj 1) [(.v 26)] <|
  (.op none (.proj 2) [(.v 26)] <|
  (.call none 13 [(.v 23), (.v 24), (.v 25), (.v 27), (.v 28), (.v 29)] 3 <|
  (.call none 15 [(.v 30), (.v 31), (.v 32)] 1 <|
  (.op none (.far .sub .f32) [(.v 21), (.v 33)] <|
  (.out 0 [(.v 34), (.c (.bool true))])))))))))))))))))))))))))
def S417 (G : Told) (_fuel : Nat) (x0 x1 x2 x3 : D) : Option (Nat × List D) :=
  (gcall G none 406 [x0, x1, x2, x3] 5).bind fun e4 =>
  (gev none .bnot [(e4.getD 4 .undef)]).bind fun x9 =>
  tif x9 (
    some (0, [(.flt 0), (.bool false)])) (
    (gev none .idx [x0, x2]).bind fun x10 =>
    (gev none (.proj 0) [x10]).bind fun x11 =>
    (gev none (.proj 1) [x10]).bind fun x12 =>
    (gev none (.proj 2) [x10]).bind fun x13 =>
    (gev none .idx [x0, x3]).bind fun x14 =>
    (gev none (.proj 0) [x14]).bind fun x15 =>
    (gev none (.proj 1) [x14]).bind fun x16 =>
    (gev none (.proj 2) [x14]).bind fun x17 =>
    (gcall G none 13 [x11, x12, x13, x15, x16, x17] 3).bind fun e18 =>
    (gcall G none 15 [(e18.getD 0 .undef), (e18.getD 1 .undef), (e18.getD 2 .undef)] 1).bind fun e21 =>
    (gev none .idx [x0, (e4.getD 2 .undef)]).bind fun x22 =>
    (gev none (.proj 0) [x22]).bind fun x23 =>
    (gev none (.proj 1) [x22]).bind fun x24 =>
    (gev none (.proj 2) [x22]).bind fun x25 =>
    (gev none .idx [x0, (e4.getD 3 .undef)]).bind fun x26 =>
    (gev none (.proj 0) [x26]).bind fun x27 =>
    (gev none (.proj 1) [x26]).bind fun x28 =>
    (gev none (.proj 2) [x26]).bind fun x29 =>
    (gcall G none 13 [x23, x24, x25, x27, x28, x29] 3).bind fun e30 =>
    (gcall G none 15 [(e30.getD 0 .undef), (e30.getD 1 .undef), (e30.getD 2 .undef)] 1).bind fun e33 =>
    (gev none (.far .sub .f32) [(e21.getD 0 .undef), (e33.getD 0 .undef)]).bind fun x34 =>
    some (0, [x34, (.bool true)]))
theorem eq417 {G : Told} {fuel : Nat} (x0 x1 x2 x3 : D) : run G fuel T417 [x0, x1, x2, x3] = S417 G fuel x0 x1 x2 x3 := by
  rw [run_eq]; kernel_rfl

def T417s : T :=
(.call none 415 [(.v 0), (.v 1), (.v 2), (.v 3)] 3 <|
(.op none .bnot [(.v 6)] <|
(.ite (.v 7)
  (.out 0 [(.c (.flt 0)), (.c (.bool false))])
  (.op none .idx [(.v 1), (.v 4)] <|
  (.call none 408 [(.v 8), (.v 2), (.v 3)] 1 <|
  (.op none .idx [(.v 1), (.v 5)] <|
  (.call none 408 [(.v 10), (.v 2), (.v 3)] 1 <|
  (.op none .idx [(.v 0), (.v 2)] <|
  (.op none (.proj 0) [(.v 12)] <|
  (.op none (.proj 1) [(.v 12)] <|
  (.op none (.proj 2) [(.v 12)] <|
  (.op none .idx [(.v 0), (.v 3)] <|
  (.op none (.proj 0) [(.v 16)] <|
  (.op none (.proj 1) [(.v 16)] <|
  (.op none (.proj 2) [(.v 16)] <|
  (.call none 13 [(.v 13), (.v 14), (.v 15), (.v 17), (.v 18), (.v 19)] 3 <|
  (.call none 15 [(.v 20), (.v 21), (.v 22)] 1 <|
  (.op none .idx [(.v 0), (.v 9)] <|
  (.op none (.proj 0) [(.v 24)] <|
  (.op none (.proj 1) [(.v 24)] <|
  (.op none (.proj 2) [(.v 24)] <|
  (.op none .idx [(.v 0), (.v 11)] <|
  (.op none (.proj 0) [(.v 28)] <|
  (.op none (.proj 1) [(.v 28)] <|
  (.op none (.proj 2) [(.v 28)] <|
  (.call none 13 [(.v 25), (.v 26), (.v 27), (.v 29), (.v 30), (.v 31)] 3 <|
  (.call none 15 [(.v 32), (.v 33), (.v 34)] 1 <|
  (.op none (.far .sub .f32) [(.v 23), (.v 35)] <|
  (.out 0 [(.v 36), (.c (.bool true))])))))))))))))))))))))))))))))
def S417s (G : Told) (_fuel : Nat) (x0 x1 x2 x3 : D) : Option (Nat × List D) :=
  (gcall G none 415 [x0, x1, x2, x3] 3).bind fun e4 =>
  (gev none .bnot [(e4.getD 2 .undef)]).bind fun x7 =>
  tif x7 (
    some (0, [(.flt 0), (.bool false)])) (
    (gev none .idx [x1, (e4.getD 0 .undef)]).bind fun x8 =>
    (gcall G none 408 [x8, x2, x3] 1).bind fun e9 =>
    (gev none .idx [x1, (e4.getD 1 .undef)]).bind fun x10 =>
    (gcall G none 408 [x10, x2, x3] 1).bind fun e11 =>
    (gev none .idx [x0, x2]).bind fun x12 =>
    (gev none (.proj 0) [x12]).bind fun x13 =>
    (gev none (.proj 1) [x12]).bind fun x14 =>
    (gev none (.proj 2) [x12]).bind fun x15 =>
    (gev none .idx [x0, x3]).bind fun x16 =>
    (gev none (.proj 0) [x16]).bind fun x17 =>
    (gev none (.proj 1) [x16]).bind fun x18 =>
    (gev none (.proj 2) [x16]).bind fun x19 =>
    (gcall G none 13 [x13, x14, x15, x17, x18, x19] 3).bind fun e20 =>
    (gcall G none 15 [(e20.getD 0 .undef), (e20.getD 1 .undef), (e20.getD 2 .undef)] 1).bind fun e23 =>
    (gev none .idx [x0, (e9.getD 0 .undef)]).bind fun x24 =>
    (gev none (.proj 0) [x24]).bind fun x25 =>
    (gev none (.proj 1) [x24]).bind fun x26 =>
    (gev none (.proj 2) [x24]).bind fun x27 =>
    (gev none .idx [x0, (e11.getD 0 .undef)]).bind fun x28 =>
    (gev none (.proj 0) [x28]).bind fun x29 =>
    (gev none (.proj 1) [x28]).bind fun x30 =>
    (gev none (.proj 2) [x28]).bind fun x31 =>
    (gcall G none 13 [x25, x26, x27, x29, x30, x31] 3).bind fun e32 =>
    (gcall G none 15 [(e32.getD 0 .undef), (e32.getD 1 .undef), (e32.getD 2 .undef)] 1).bind fun e35 =>
    (gev none (.far .sub .f32) [(e23.getD 0 .undef), (e35.getD 0 .undef)]).bind fun x36 =>
    some (0, [x36, (.bool true)]))
theorem eq417s {G : Told} {fuel : Nat} (x0 x1 x2 x3 : D) : run G fuel T417s [x0, x1, x2, x3] = S417s G fuel x0 x1 x2 x3 := by
  rw [run_eq]; kernel_rfl

theorem inr_iff {n p : Int} : inr n p = true ↔ 0 ≤ p ∧ p < n := by
  unfold inr
  simp only [Bool.and_eq_true, decide_eq_true_eq]
  omega
theorem okP_ok {n : Nat} {ts : List (List Int)} {p q : Int} (h : okP n ts p q = true) : validP n ts = true ∧ (0 ≤ p ∧ p < n) ∧ (0 ≤ q ∧ q < n) ∧ p ≠ q := by
  unfold okP at h
  simp only [Bool.and_eq_true, inr_iff, bne_iff_ne, ne_eq] at h
  exact ⟨h.1, h.2.1.1, h.2.1.2, h.2.2⟩
theorem has_comm (t : List Int) (p q : Int) : hasB t p q = hasB t q p := by unfold hasB; rw [Bool.and_comm]
theorem thirdB_of {x y z p q : Int} (h1 : x ≠ y) (h2 : y ≠ z) (h3 : x ≠ z) (h : p ≠ q) (hh : hasB [x, y, z] p q = true) (h4 : 0 ≤ x ∧ x < 64) (h5 : 0 ≤ y ∧ y < 64) (h6 : 0 ≤ z ∧ z < 64) : thirdB x y z p q = true := by
  unfold thirdB
  simp only [Bool.and_eq_true, decide_eq_true_eq]
  exact ⟨⟨⟨⟨⟨h1, h2⟩, h3⟩, h⟩, hh⟩, ⟨h4, h5⟩, h6⟩
theorem third_at {n : Nat} {ts : List (List Int)} (hv : validP n ts = true) {G : Told} (g408 : G 408 = F408) {p q j : Int} (hpq : p ≠ q) (h : j ∈ atL ts p q) :
    gcall G none 408 [il (ts.getD j.toNat []), .int p, .int q] 1 = some [.int (thirdP (ts.getD j.toNat []) p q)] ∧ gcall G none 408 [il (ts.getD j.toNat []), .int (min p q), .int (max p q)] 1 = some [.int (thirdP (ts.getD j.toNat []) p q)] ∧
      (0 ≤ thirdP (ts.getD j.toNat []) p q ∧ thirdP (ts.getD j.toNat []) p q < n) := by
  obtain ⟨hn, _⟩ := valid_len hv
  obtain ⟨x, y, z, ht, h1, h2, h3, h4, h5, h6, h7⟩ := atL_tri (triOk_of hv) h
  rw [ht]
  have hb := thirdB_of h1 h2 h3 hpq h7 ⟨h4.1, by omega⟩ ⟨h5.1, by omega⟩ ⟨h6.1, by omega⟩
  have hb2 : thirdB x y z (min p q) (max p q) = true := by
    refine thirdB_of h1 h2 h3 (by omega) ?_ ⟨h4.1, by omega⟩ ⟨h5.1, by omega⟩ ⟨h6.1, by omega⟩
    by_cases hle : p ≤ q
    · rw [Int.min_eq_left hle, Int.max_eq_right hle]; exact h7
    · rw [Int.min_eq_right (by omega), Int.max_eq_left (by omega), has_comm]; exact h7
  have e : thirdP [x, y, z] (min p q) (max p q) = thirdP [x, y, z] p q := by unfold thirdP; omega
  refine ⟨gcall_on g408 rfl (F408_m hb) rfl, ?_, ?_⟩
  · rw [← e]; exact gcall_on g408 rfl (F408_m hb2) rfl
  · have := thirdB_ok hb
    have e2 : thirdP [x, y, z] p q = x + y + z - p - q := rfl
    rw [e2]
    omega

attribute [local irreducible] IntKind.wrap il tl vl bo mpD kD inr validP sheetP longP fsub

/-- What is known of an edge's two triangles. -/
theorem two_facts {n : Nat} {ts : List (List Int)} (hv : validP n ts = true) {G : Told} (g407 : G 407 = F407) (g408 : G 408 = F408) {p q : Int} (hpq : p ≠ q) (h2 : (atL ts p q).length = 2) :
    ∃ u v g, atL ts p q = [u, v] ∧ goesA ts p q u = g ∧ oneI ts p q = (if g = true then u else v) ∧ twoI ts p q = (if g = true then v else u) ∧
      gev none .idx [tl ts, .int u] = some (il (ts.getD u.toNat [])) ∧ gev none .idx [tl ts, .int v] = some (il (ts.getD v.toNat [])) ∧ gcall G none 407 [il (ts.getD u.toNat []), .int p, .int q] 1 = some [.bool g] ∧
      gcall G none 408 [il (ts.getD (oneI ts p q).toNat []), .int p, .int q] 1 = some [.int (flC ts p q)] ∧ gcall G none 408 [il (ts.getD (twoI ts p q).toNat []), .int p, .int q] 1 = some [.int (flD ts p q)] ∧
      gcall G none 408 [il (ts.getD (oneI ts p q).toNat []), .int (min p q), .int (max p q)] 1 = some [.int (flC ts p q)] ∧ gcall G none 408 [il (ts.getD (twoI ts p q).toNat []), .int (min p q), .int (max p q)] 1 = some [.int (flD ts p q)] ∧
      (0 ≤ flC ts p q ∧ flC ts p q < n) ∧ (0 ≤ flD ts p q ∧ flD ts p q < n) ∧ (0 ≤ u ∧ u < (ts.length : Int)) ∧ (0 ≤ v ∧ v < (ts.length : Int)) := by
  obtain ⟨u, v, huv⟩ := len2 h2
  have hu : u ∈ atL ts p q := by rw [huv]; simp
  have hv' : v ∈ atL ts p q := by rw [huv]; simp
  have hT := triOk_of hv
  obtain ⟨a1, a2⟩ := goes_at hT g407 hu p q
  obtain ⟨b1, b2⟩ := goes_at hT g407 hv' p q
  have e1 : oneI ts p q = if goesA ts p q u = true then u else v := by unfold oneI; rw [huv]; rfl
  have e2 : twoI ts p q = if goesA ts p q u = true then v else u := by unfold twoI; rw [huv]; rfl
  have m1 : oneI ts p q ∈ atL ts p q := by rw [e1]; split <;> assumption
  have m2 : twoI ts p q ∈ atL ts p q := by rw [e2]; split <;> assumption
  obtain ⟨c1, c2, c3⟩ := third_at hv g408 hpq m1
  obtain ⟨d1, d2, d3⟩ := third_at hv g408 hpq m2
  exact ⟨u, v, _, huv, rfl, e1, e2, a1, b1, a2, c1, d1, c2, d2, c3, d3, atL_in hu, atL_in hv'⟩

set_option maxHeartbeats 4000000 in
theorem run415 {G : Told} (g168 : G 168 = F168g) (g407 : G 407 = F407) (g408 : G 408 = F408) : ∀ ds rs, F415 ds = some rs → ∃ fuel, run G fuel T415 ds = some (0, rs) := by
  intro ds rs h
  unfold F415 at h
  split at h
  case h_2 => cases h
  rename_i a b p q
  obtain ⟨vs, ha, h⟩ := Option.bind_eq_some_iff.1 h
  obtain ⟨ts, hb, h⟩ := Option.bind_eq_some_iff.1 h
  rw [dV_inv ha, dT_inv hb]
  split at h
  case isFalse => cases h
  rename_i hc
  simp only [Option.some.injEq] at h
  subst h
  clear ha
  clear hb
  obtain ⟨hv, hp, hq, hpq⟩ := okP_ok hc
  have hT := triOk_of hv
  have h64 := valid64 hv
  obtain ⟨hn64, h128⟩ := valid_len hv
  refine ⟨0, ?_⟩
  rw [eq415]
  unfold S415
  have c0 : gcall G none 168 [vl vs, tl ts, .int p, .int q] 1 = some [il (atL ts p q)] := gcall_on g168 rfl (F168g_m h64) rfl
  have hll := len_il (l := atL ts p q)
  by_cases h2 : (atL ts p q).length = 2
  case neg =>
    have d : (((atL ts p q).length : Int) != 2) = true := by rw [bne_iff_ne]; omega
    rw [if_neg h2]
    repeat' first
      | with_reducible refine st_ift ?_
      | with_reducible refine st_iff ?_
      | ((with_reducible apply st_some); exact c0)
      | ((with_reducible apply st_some); exact hll)
      | ((with_reducible apply st_callt); assumption; exact rfl; exact rfl; assumption)
      | ((with_reducible apply st_callf); assumption; exact rfl; exact rfl; assumption)
      | ((with_reducible apply st_call); assumption; exact rfl; exact rfl; exact rfl)
      | ((with_reducible apply st_wide); exact rfl; exact rfl)
      | ((with_reducible apply st_skip); exact rfl)
      | ((with_reducible apply st_t); exact rfl; exact rfl)
      | ((with_reducible apply st_f); exact rfl; exact rfl)
      | ((with_reducible apply st_t); exact rfl; assumption)
      | ((with_reducible apply st_f); exact rfl; assumption)
      | ((with_reducible apply st_some); exact rfl)
      | exact rfl
  case pos =>
    have d : (((atL ts p q).length : Int) != 2) = false := by rw [h2]; rfl
    rw [if_pos h2]
    obtain ⟨u, v, g, huv, _, e1, e2, a1, b1, a2, k1, k2, _, _, _, _, _, _⟩ := two_facts hv g407 g408 hpq h2
    have i0 : gev none .idx [il (atL ts p q), .int 0] = some (.int u) := by rw [huv]; exact p_j0
    have i1 : gev none .idx [il (atL ts p q), .int 1] = some (.int v) := by rw [huv]; exact p_j1
    have c1 : gcall G none 168 [vl vs, tl ts, .int (flC ts p q), .int (flD ts p q)] 1 = some [il (atL ts (flC ts p q) (flD ts p q))] := gcall_on g168 rfl (F168g_m h64) rfl
    have hl2 := len_il (l := atL ts (flC ts p q) (flD ts p q))
    have hcd : gev none (.icm .neq) [.int (flC ts p q), .int (flD ts p q)] = some (.bool (flC ts p q != flD ts p q)) := rfl
    have hz : gev none (.icm .eql) [.int ((atL ts (flC ts p q) (flD ts p q)).length : Int), .int 0] = some (.bool (decide ((atL ts (flC ts p q) (flD ts p q)).length = 0))) := by
      show some (D.bool _) = _
      congr 2
      rw [Bool.eq_iff_iff]
      simp
    unfold flipQ
    generalize (flC ts p q != flD ts p q) = bc at *
    generalize decide ((atL ts (flC ts p q) (flD ts p q)).length = 0) = bz at *
    generalize atL ts (flC ts p q) (flD ts p q) = L2 at *
    generalize flC ts p q = C at *
    generalize flD ts p q = E at *
    generalize atL ts p q = L at *
    cases g with
    | true =>
      rw [if_pos rfl] at e1 e2
      rw [e1] at k1 ⊢
      rw [e2] at k2 ⊢
      cases bc <;> cases bz <;>
        repeat' first
          | with_reducible refine st_ift ?_
          | with_reducible refine st_iff ?_
          | ((with_reducible refine st_join (ds := [.int u, .int v]) ?_ rfl ?_))
          | ((with_reducible apply st_some); exact c0)
          | ((with_reducible apply st_some); exact hll)
          | ((with_reducible apply st_some); exact i0)
          | ((with_reducible apply st_some); exact i1)
          | ((with_reducible apply st_some); exact a1)
          | ((with_reducible apply st_some); exact b1)
          | ((with_reducible apply st_some); exact a2)
          | ((with_reducible apply st_some); exact k1)
          | ((with_reducible apply st_some); exact k2)
          | ((with_reducible apply st_some); exact hcd)
          | ((with_reducible apply st_some); exact c1)
          | ((with_reducible apply st_some); exact hl2)
          | ((with_reducible apply st_some); exact hz)
          | ((with_reducible apply st_callt); assumption; exact rfl; exact rfl; assumption)
          | ((with_reducible apply st_callf); assumption; exact rfl; exact rfl; assumption)
          | ((with_reducible apply st_call); assumption; exact rfl; exact rfl; exact rfl)
          | ((with_reducible apply st_wide); exact rfl; exact rfl)
          | ((with_reducible apply st_skip); exact rfl)
          | ((with_reducible apply st_t); exact rfl; exact rfl)
          | ((with_reducible apply st_f); exact rfl; exact rfl)
          | ((with_reducible apply st_t); exact rfl; assumption)
          | ((with_reducible apply st_f); exact rfl; assumption)
          | ((with_reducible apply st_some); exact rfl)
          | exact rfl
    | false =>
      rw [if_neg (by simp)] at e1 e2
      rw [e1] at k1 ⊢
      rw [e2] at k2 ⊢
      cases bc <;> cases bz <;>
        repeat' first
          | with_reducible refine st_ift ?_
          | with_reducible refine st_iff ?_
          | ((with_reducible refine st_join (ds := [.int v, .int u]) ?_ rfl ?_))
          | ((with_reducible apply st_some); exact c0)
          | ((with_reducible apply st_some); exact hll)
          | ((with_reducible apply st_some); exact i0)
          | ((with_reducible apply st_some); exact i1)
          | ((with_reducible apply st_some); exact a1)
          | ((with_reducible apply st_some); exact b1)
          | ((with_reducible apply st_some); exact a2)
          | ((with_reducible apply st_some); exact k1)
          | ((with_reducible apply st_some); exact k2)
          | ((with_reducible apply st_some); exact hcd)
          | ((with_reducible apply st_some); exact c1)
          | ((with_reducible apply st_some); exact hl2)
          | ((with_reducible apply st_some); exact hz)
          | ((with_reducible apply st_callt); assumption; exact rfl; exact rfl; assumption)
          | ((with_reducible apply st_callf); assumption; exact rfl; exact rfl; assumption)
          | ((with_reducible apply st_call); assumption; exact rfl; exact rfl; exact rfl)
          | ((with_reducible apply st_wide); exact rfl; exact rfl)
          | ((with_reducible apply st_skip); exact rfl)
          | ((with_reducible apply st_t); exact rfl; exact rfl)
          | ((with_reducible apply st_f); exact rfl; exact rfl)
          | ((with_reducible apply st_t); exact rfl; assumption)
          | ((with_reducible apply st_f); exact rfl; assumption)
          | ((with_reducible apply st_some); exact rfl)
          | exact rfl

set_option maxHeartbeats 4000000 in
theorem run406 {G : Told} (g401 : G 401 = F401) (g400 : G 400 = F400) (g407 : G 407 = F407) (g408 : G 408 = F408) : ∀ ds rs, F406 ds = some rs → ∃ fuel, run G fuel T406 ds = some (0, rs) := by
  intro ds rs h
  unfold F406 at h
  split at h
  case h_2 => cases h
  rename_i a b p q
  obtain ⟨vs, ha, h⟩ := Option.bind_eq_some_iff.1 h
  obtain ⟨ts, hb, h⟩ := Option.bind_eq_some_iff.1 h
  rw [dV_inv ha, dT_inv hb]
  split at h
  case isFalse => cases h
  rename_i hc
  simp only [Option.some.injEq] at h
  subst h
  clear ha
  clear hb
  obtain ⟨hv, hp, hq, hpq⟩ := okP_ok hc
  have hT := triOk_of hv
  have h64 := valid64 hv
  obtain ⟨hn64, h128⟩ := valid_len hv
  refine ⟨0, ?_⟩
  rw [eq406]
  unfold S406
  have c0 : gcall G none 401 [vl vs, tl ts] 2 = some [mpD il (byT ts).1, edl (sortE (byT ts).2)] := gcall_on g401 rfl (F401_m h64) rfl
  have c1 : gcall G none 400 [.int p, .int q] 2 = some [.int (min p q), .int (max p q)] := gcall_on g400 rfl rfl rfl
  have k0 := kD_uE p q
  have q1 : gev none .mget [mpD il (byT ts).1, kD (uE p q), .lst []] = some (il (atL ts p q)) := by
    rw [lst_nil, q_get (kIn_uE ⟨hp.1, by omega⟩ ⟨hq.1, by omega⟩), getD_map, by_at hT hpq]
  have hll := len_il (l := atL ts p q)
  unfold flipB
  by_cases h2 : (atL ts p q).length = 2
  case neg =>
    have d : (((atL ts p q).length : Int) != 2) = true := by rw [bne_iff_ne]; omega
    rw [if_neg (by simp [h2])]
    repeat' first
      | with_reducible refine st_ift ?_
      | with_reducible refine st_iff ?_
      | ((with_reducible apply st_some); exact c0)
      | ((with_reducible apply st_some); exact c1)
      | ((with_reducible apply st_some); exact k0)
      | ((with_reducible apply st_some); exact q1)
      | ((with_reducible apply st_some); exact hll)
      | ((with_reducible apply st_callt); assumption; exact rfl; exact rfl; assumption)
      | ((with_reducible apply st_callf); assumption; exact rfl; exact rfl; assumption)
      | ((with_reducible apply st_call); assumption; exact rfl; exact rfl; exact rfl)
      | ((with_reducible apply st_wide); exact rfl; exact rfl)
      | ((with_reducible apply st_skip); exact rfl)
      | ((with_reducible apply st_t); exact rfl; exact rfl)
      | ((with_reducible apply st_f); exact rfl; exact rfl)
      | ((with_reducible apply st_t); exact rfl; assumption)
      | ((with_reducible apply st_f); exact rfl; assumption)
      | ((with_reducible apply st_some); exact rfl)
      | exact rfl
  case pos =>
    have d : (((atL ts p q).length : Int) != 2) = false := by rw [h2]; rfl
    rw [decide_eq_true h2, Bool.true_and]
    obtain ⟨u, v, g, huv, _, e1, e2, a1, b1, a2, _, _, k1, k2, hC, hE, _, _⟩ := two_facts hv g407 g408 hpq h2
    have i0 : gev none .idx [il (atL ts p q), .int 0] = some (.int u) := by rw [huv]; exact p_j0
    have i1 : gev none .idx [il (atL ts p q), .int 1] = some (.int v) := by rw [huv]; exact p_j1
    have c2 : gcall G none 400 [.int (flC ts p q), .int (flD ts p q)] 2 = some [.int (min (flC ts p q) (flD ts p q)), .int (max (flC ts p q) (flD ts p q))] := gcall_on g400 rfl rfl rfl
    have k3 := kD_uE (flC ts p q) (flD ts p q)
    have hcd : gev none (.icm .eql) [.int (flC ts p q), .int (flD ts p q)] = some (.bool (flC ts p q == flD ts p q)) := rfl
    have q2 : (flC ts p q == flD ts p q) = false → gev none .mget [mpD il (byT ts).1, kD (uE (flC ts p q) (flD ts p q)), .lst []] = some (il (atL ts (flC ts p q) (flD ts p q))) := by
      intro hne
      rw [lst_nil, q_get (kIn_uE ⟨hC.1, by omega⟩ ⟨hE.1, by omega⟩), getD_map, by_at hT (by simpa using hne)]
    have hl2 := len_il (l := atL ts (flC ts p q) (flD ts p q))
    have hz : gev none (.icm .gtr) [.int ((atL ts (flC ts p q) (flD ts p q)).length : Int), .int 0] = some (.bool (!decide ((atL ts (flC ts p q) (flD ts p q)).length = 0))) := by
      show some (D.bool _) = _
      congr 2
      rw [Bool.eq_iff_iff]
      simp only [decide_eq_true_eq, Bool.not_eq_true', decide_eq_false_iff_not]
      omega
    unfold flipQ
    rw [show (flC ts p q != flD ts p q) = !(flC ts p q == flD ts p q) from rfl]
    generalize (flC ts p q == flD ts p q) = bc at *
    generalize decide ((atL ts (flC ts p q) (flD ts p q)).length = 0) = bz at *
    generalize atL ts (flC ts p q) (flD ts p q) = L2 at *
    generalize uE (flC ts p q) (flD ts p q) = ce at *
    generalize flC ts p q = C at *
    generalize flD ts p q = E at *
    generalize atL ts p q = L at *
    cases g with
    | true =>
      rw [if_pos rfl] at e1 e2
      rw [e1] at k1 ⊢
      rw [e2] at k2 ⊢
      cases bc with
      | true =>
        clear q2
        cases bz <;>
          repeat' first
            | with_reducible refine st_ift ?_
            | with_reducible refine st_iff ?_
            | ((with_reducible refine st_join (ds := [.int u, .int v]) ?_ rfl ?_))
            | ((with_reducible apply st_some); exact c0)
            | ((with_reducible apply st_some); exact c1)
            | ((with_reducible apply st_some); exact k0)
            | ((with_reducible apply st_some); exact q1)
            | ((with_reducible apply st_some); exact hll)
            | ((with_reducible apply st_some); exact i0)
            | ((with_reducible apply st_some); exact i1)
            | ((with_reducible apply st_some); exact a1)
            | ((with_reducible apply st_some); exact b1)
            | ((with_reducible apply st_some); exact a2)
            | ((with_reducible apply st_some); exact k1)
            | ((with_reducible apply st_some); exact k2)
            | ((with_reducible apply st_some); exact hcd)
            | ((with_reducible apply st_callt); assumption; exact rfl; exact rfl; assumption)
            | ((with_reducible apply st_callf); assumption; exact rfl; exact rfl; assumption)
            | ((with_reducible apply st_call); assumption; exact rfl; exact rfl; exact rfl)
            | ((with_reducible apply st_wide); exact rfl; exact rfl)
            | ((with_reducible apply st_skip); exact rfl)
            | ((with_reducible apply st_t); exact rfl; exact rfl)
            | ((with_reducible apply st_f); exact rfl; exact rfl)
            | ((with_reducible apply st_t); exact rfl; assumption)
            | ((with_reducible apply st_f); exact rfl; assumption)
            | ((with_reducible apply st_some); exact rfl)
            | exact rfl
      | false =>
        have q2 := q2 rfl
        cases bz <;>
          repeat' first
            | with_reducible refine st_ift ?_
            | with_reducible refine st_iff ?_
            | ((with_reducible refine st_join (ds := [.int u, .int v]) ?_ rfl ?_))
            | ((with_reducible apply st_some); exact c0)
            | ((with_reducible apply st_some); exact c1)
            | ((with_reducible apply st_some); exact k0)
            | ((with_reducible apply st_some); exact q1)
            | ((with_reducible apply st_some); exact hll)
            | ((with_reducible apply st_some); exact i0)
            | ((with_reducible apply st_some); exact i1)
            | ((with_reducible apply st_some); exact a1)
            | ((with_reducible apply st_some); exact b1)
            | ((with_reducible apply st_some); exact a2)
            | ((with_reducible apply st_some); exact k1)
            | ((with_reducible apply st_some); exact k2)
            | ((with_reducible apply st_some); exact hcd)
            | ((with_reducible apply st_some); exact c2)
            | ((with_reducible apply st_some); exact k3)
            | ((with_reducible apply st_some); exact q2)
            | ((with_reducible apply st_some); exact hl2)
            | ((with_reducible apply st_some); exact hz)
            | ((with_reducible apply st_callt); assumption; exact rfl; exact rfl; assumption)
            | ((with_reducible apply st_callf); assumption; exact rfl; exact rfl; assumption)
            | ((with_reducible apply st_call); assumption; exact rfl; exact rfl; exact rfl)
            | ((with_reducible apply st_wide); exact rfl; exact rfl)
            | ((with_reducible apply st_skip); exact rfl)
            | ((with_reducible apply st_t); exact rfl; exact rfl)
            | ((with_reducible apply st_f); exact rfl; exact rfl)
            | ((with_reducible apply st_t); exact rfl; assumption)
            | ((with_reducible apply st_f); exact rfl; assumption)
            | ((with_reducible apply st_some); exact rfl)
            | exact rfl
    | false =>
      rw [if_neg (by simp)] at e1 e2
      rw [e1] at k1 ⊢
      rw [e2] at k2 ⊢
      cases bc with
      | true =>
        clear q2
        cases bz <;>
          repeat' first
            | with_reducible refine st_ift ?_
            | with_reducible refine st_iff ?_
            | ((with_reducible refine st_join (ds := [.int v, .int u]) ?_ rfl ?_))
            | ((with_reducible apply st_some); exact c0)
            | ((with_reducible apply st_some); exact c1)
            | ((with_reducible apply st_some); exact k0)
            | ((with_reducible apply st_some); exact q1)
            | ((with_reducible apply st_some); exact hll)
            | ((with_reducible apply st_some); exact i0)
            | ((with_reducible apply st_some); exact i1)
            | ((with_reducible apply st_some); exact a1)
            | ((with_reducible apply st_some); exact b1)
            | ((with_reducible apply st_some); exact a2)
            | ((with_reducible apply st_some); exact k1)
            | ((with_reducible apply st_some); exact k2)
            | ((with_reducible apply st_some); exact hcd)
            | ((with_reducible apply st_callt); assumption; exact rfl; exact rfl; assumption)
            | ((with_reducible apply st_callf); assumption; exact rfl; exact rfl; assumption)
            | ((with_reducible apply st_call); assumption; exact rfl; exact rfl; exact rfl)
            | ((with_reducible apply st_wide); exact rfl; exact rfl)
            | ((with_reducible apply st_skip); exact rfl)
            | ((with_reducible apply st_t); exact rfl; exact rfl)
            | ((with_reducible apply st_f); exact rfl; exact rfl)
            | ((with_reducible apply st_t); exact rfl; assumption)
            | ((with_reducible apply st_f); exact rfl; assumption)
            | ((with_reducible apply st_some); exact rfl)
            | exact rfl
      | false =>
        have q2 := q2 rfl
        cases bz <;>
          repeat' first
            | with_reducible refine st_ift ?_
            | with_reducible refine st_iff ?_
            | ((with_reducible refine st_join (ds := [.int v, .int u]) ?_ rfl ?_))
            | ((with_reducible apply st_some); exact c0)
            | ((with_reducible apply st_some); exact c1)
            | ((with_reducible apply st_some); exact k0)
            | ((with_reducible apply st_some); exact q1)
            | ((with_reducible apply st_some); exact hll)
            | ((with_reducible apply st_some); exact i0)
            | ((with_reducible apply st_some); exact i1)
            | ((with_reducible apply st_some); exact a1)
            | ((with_reducible apply st_some); exact b1)
            | ((with_reducible apply st_some); exact a2)
            | ((with_reducible apply st_some); exact k1)
            | ((with_reducible apply st_some); exact k2)
            | ((with_reducible apply st_some); exact hcd)
            | ((with_reducible apply st_some); exact c2)
            | ((with_reducible apply st_some); exact k3)
            | ((with_reducible apply st_some); exact q2)
            | ((with_reducible apply st_some); exact hl2)
            | ((with_reducible apply st_some); exact hz)
            | ((with_reducible apply st_callt); assumption; exact rfl; exact rfl; assumption)
            | ((with_reducible apply st_callf); assumption; exact rfl; exact rfl; assumption)
            | ((with_reducible apply st_call); assumption; exact rfl; exact rfl; exact rfl)
            | ((with_reducible apply st_wide); exact rfl; exact rfl)
            | ((with_reducible apply st_skip); exact rfl)
            | ((with_reducible apply st_t); exact rfl; exact rfl)
            | ((with_reducible apply st_f); exact rfl; exact rfl)
            | ((with_reducible apply st_t); exact rfl; assumption)
            | ((with_reducible apply st_f); exact rfl; assumption)
            | ((with_reducible apply st_some); exact rfl)
            | exact rfl

end Vs
