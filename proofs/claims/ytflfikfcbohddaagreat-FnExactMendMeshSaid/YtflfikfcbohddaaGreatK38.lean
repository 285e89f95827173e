/-
  MendOnce and MendMesh, and their laws.
-/
import Derived.Test.YtflfikfcbohddaaGreatK31
import Derived.Test.YtflfikfcbohddaaGreatK33
import Derived.Test.YtflfikfcbohddaaGreatK37
import Derived.Test.YtflfikfcbohddaaGreatKq5
import Derived.Test.YtflfikfcbohddaaGreatK9
set_option maxHeartbeats 4000000
namespace Vs
open Go Go.Sort
def bstE (es : List E2) (st : Option (Nat × Nat)) (cmp : Nat → Bool) (ok : E2 → Bool) : Option E2 :=
 st.bind fun s => if (cmp s.2 && ok (es.getD s.1 (0, 0))) = true then some (es.getD s.1 (0, 0)) else none
def bstL (vs : List V3) (ts : List (List Int)) (l : Bool) : Option (Nat × Nat) := bstN (numL vs) (betL l) (edgL ts vs.length) (edgL ts vs.length).length
def bstF (vs : List V3) (ts : List (List Int)) : Option (Nat × Nat) := bstN (numF vs ts) (betL true) (edgL ts vs.length) (edgL ts vs.length).length
def longE (vs : List V3) (ts : List (List Int)) (lo : Nat) : Option E2 := bstE (edgL ts vs.length) (bstL vs ts true) (fun v => fgt .f32 v lo) (fun e => goodS vs.length ts e.1 e.2)
def shortE (vs : List V3) (ts : List (List Int)) (sh : Nat) : Option E2 := bstE (edgL ts vs.length) (bstL vs ts false) (fun v => flt .f32 v sh) (fun e => okJ vs.length ts e.1 e.2)
def flipE (vs : List V3) (ts : List (List Int)) : Option E2 := bstE (edgL ts vs.length) (bstF vs ts) (fun v => fgt .f32 v 0) (fun e => flipB ts e.1 e.2)
def splM (vs : List V3) (ts : List (List Int)) (e : E2) : List V3 × List (List Int) × Int := (vs ++ [midV vs e.1 e.2 1056964608], splT ts e.1 e.2 vs.length, 1)
def joiM (vs : List V3) (ts : List (List Int)) (e : E2) : List V3 × List (List Int) × Int := (joinV vs e.2, joinT ts e.1 e.2, 2)
def fliM (vs : List V3) (ts : List (List Int)) (e : E2) : List V3 × List (List Int) × Int := (vs, flipT ts e.1 e.2, 3)
def mendM (vs : List V3) (ts : List (List Int)) (sh lo : Nat) : List V3 × List (List Int) × Int :=
 match longE vs ts lo with
 | some e => splM vs ts e
 | none => match shortE vs ts sh with
  | some e => joiM vs ts e
  | none => match flipE vs ts with
   | some e => fliM vs ts e
   | none => (vs, ts, 0)
def mendR (sh lo : Nat) : Nat → List V3 → List (List Int) → List Int → List V3 × List (List Int) × List Int
 | 0, vs, ts, acts => (vs, ts, acts)
 | r + 1, vs, ts, acts => if (mendM vs ts sh lo).2.2 = 0 then (vs, ts, acts) else mendR sh lo r (mendM vs ts sh lo).1 (mendM vs ts sh lo).2.1 (acts ++ [(mendM vs ts sh lo).2.2])
def goodM (vs : List V3) (ts : List (List Int)) : Bool := validP vs.length ts && sheetP ts
def okM (vs : List V3) (ts : List (List Int)) (sh lo : Nat) : Bool := goodM vs ts && (finP sh && finP lo)
noncomputable def F502 : List D → Option (List D)
 | [a, b, .flt x, .flt y] => (dV a).bind fun vs => (dT b).bind fun ts => if szM vs ts ≤ 1048576 then some [.bool (okM vs ts x y)] else none
 | _ => none
theorem F502_m {vs : List V3} {ts : List (List Int)} {x y : Nat} (h : szM vs ts ≤ 1048576) : F502 [vl vs, tl ts, .flt x, .flt y] = some [.bool (okM vs ts x y)] := by
 simp only [F502, dV_vl, dT_tl, Option.bind_some]
 rw [if_pos h]
noncomputable def F501 : List D → Option (List D)
 | [a, b, .flt x, .flt y] => (dV a).bind fun vs => (dT b).bind fun ts => if goodM vs ts = true then some [vl (mendM vs ts x y).1, tl (mendM vs ts x y).2.1, .int (mendM vs ts x y).2.2] else none
 | _ => none
theorem F501_m {vs : List V3} {ts : List (List Int)} {x y : Nat} (h : goodM vs ts = true) : F501 [vl vs, tl ts, .flt x, .flt y] = some [vl (mendM vs ts x y).1, tl (mendM vs ts x y).2.1, .int (mendM vs ts x y).2.2] := by
 simp only [F501, dV_vl, dT_tl, Option.bind_some]
 rw [if_pos h]
noncomputable def F500 : List D → Option (List D)
 | [a, b, .flt x, .flt y] => (dV a).bind fun vs => (dT b).bind fun ts => if szM vs ts ≤ 1048576 then some (if okM vs ts x y = true then [vl (mendM vs ts x y).1, tl (mendM vs ts x y).2.1, .int (mendM vs ts x y).2.2, .bool true] else [vl [], tl [], .int 0, .bool false]) else none
 | _ => none
theorem F500_m {vs : List V3} {ts : List (List Int)} {x y : Nat} (h : szM vs ts ≤ 1048576) : F500 [vl vs, tl ts, .flt x, .flt y] = some (if okM vs ts x y = true then [vl (mendM vs ts x y).1, tl (mendM vs ts x y).2.1, .int (mendM vs ts x y).2.2, .bool true] else [vl [], tl [], .int 0, .bool false]) := by
 simp only [F500, dV_vl, dT_tl, Option.bind_some]
 rw [if_pos h]
noncomputable def F504 : List D → Option (List D)
 | [a, b, .flt x, .flt y, .int n] => (dV a).bind fun vs => (dT b).bind fun ts => if szM vs ts ≤ 1048576 then some (if (okM vs ts x y && inr 65 n) = true then [vl (mendR x y n.toNat vs ts []).1, tl (mendR x y n.toNat vs ts []).2.1, il (mendR x y n.toNat vs ts []).2.2, .bool true] else [vl [], tl [], il [], .bool false]) else none
 | _ => none
theorem F504_m {vs : List V3} {ts : List (List Int)} {x y : Nat} {n : Int} (h : szM vs ts ≤ 1048576) : F504 [vl vs, tl ts, .flt x, .flt y, .int n] = some (if (okM vs ts x y && inr 65 n) = true then [vl (mendR x y n.toNat vs ts []).1, tl (mendR x y n.toNat vs ts []).2.1, il (mendR x y n.toNat vs ts []).2.2, .bool true] else [vl [], tl [], il [], .bool false]) := by
 simp only [F504, dV_vl, dT_tl, Option.bind_some]
 rw [if_pos h]
open Classical in
noncomputable def F505 : List D → Option (List D)
 | [a, b, .flt _, .flt _, .int _] => (dV a).bind fun vs => (dT b).bind fun ts => if lawM vs ts then some [.bool true] else none
 | _ => none
def T500 : T :=
(cc 403 [0, 1] 1 <|
oo .bnot [4] <|
oN 5 .id [2] <|
cN 5 1 [6] 1 <|
oN 5 .bnot [7] <|
oo .pick [5, kT, 8] <|
oN 9 .id [3] <|
cN 9 1 [10] 1 <|
oN 9 .bnot [11] <|
oo .pick [9, kT, 12] <|
.ite 13
 (.out 0 [kL, kL, (.c (.int 0)), kN])
 (cc 434 [0, 1] 3 <|
 oT 16 .id [15] <|
 oT 16 .id [3] <|
 oT 16 (.fcm .gtr .f32) [17, 18] <|
 oo .pick [16, 19, kN] <|
 .join 0
  (.ite 20
   (oo .idx [14, kI 0] <|
   oo .idx [14, kI 0] <|
   oo .idx [14, kI 1] <|
   oo .idx [14, kI 1] <|
   cc 422 [0, 1, 22, 24, kF 1056964608] 3 <|
   .ite 27
    (.out 1 [25, 26, kI 1, kT])
    (.out 0 []))
   (.out 0 []))
 (cc 435 [0, 1] 3 <|
 oT 23 .id [22] <|
 oT 23 .id [2] <|
 oT 23 (.fcm .lss .f32) [24, 25] <|
 oo .pick [23, 26, kN] <|
 .join 0
  (.ite 27
   (oo .idx [21, kI 0] <|
   oo .idx [21, kI 0] <|
   oo .idx [21, kI 1] <|
   oo .idx [21, kI 1] <|
   cc 444 [0, 1, 29, 31] 3 <|
   .ite 34
    (.out 1 [32, 33, kI 2, kT])
    (.out 0 []))
   (.out 0 []))
 (cc 436 [0, 1] 3 <|
 oT 30 .id [29] <|
 oT 30 (.fcm .gtr .f32) [31, kF 0] <|
 oo .pick [30, 32, kN] <|
 .join 0
  (.ite 33
   (oo .idx [28, kI 0] <|
   oo .idx [28, kI 0] <|
   oo .idx [28, kI 1] <|
   oo .idx [28, kI 1] <|
   cc 421 [0, 1, 35, 37] 3 <|
   .ite 40
    (.out 1 [38, 39, kI 3, kT])
    (.out 0 []))
   (.out 0 []))
 (cc 151 [0, 1] 2 <|
 .out 0 [34, 35, kI 0, kT])))))
def S500 (G : Told) (_fuel : Nat) (x0 x1 x2 x3 : D) : Option (Nat × List D) :=
 (gcall G none 403 [x0, x1] 1).bind fun e4 =>
 (gev none .bnot [e4.getD 0 .undef]).bind fun x5 =>
 (gev (some (x5, false)) .id [x2]).bind fun x6 =>
 (gcall G (some (x5, false)) 1 [x6] 1).bind fun e7 =>
 (gev (some (x5, false)) .bnot [e7.getD 0 .undef]).bind fun x8 =>
 (gev none .pick [x5, .bool true, x8]).bind fun x9 =>
 (gev (some (x9, false)) .id [x3]).bind fun x10 =>
 (gcall G (some (x9, false)) 1 [x10] 1).bind fun e11 =>
 (gev (some (x9, false)) .bnot [e11.getD 0 .undef]).bind fun x12 =>
 (gev none .pick [x9, .bool true, x12]).bind fun x13 =>
 tif x13 (
  some (0, [(.lst []), (.lst []), (.int 0), (.bool false)])) (
  (gcall G none 434 [x0, x1] 3).bind fun e14 =>
  (gev (some ((e14.getD 2 .undef), true)) .id [e14.getD 1 .undef]).bind fun x17 =>
  (gev (some ((e14.getD 2 .undef), true)) .id [x3]).bind fun x18 =>
  (gev (some ((e14.getD 2 .undef), true)) (.fcm .gtr .f32) [x17, x18]).bind fun x19 =>
  (gev none .pick [e14.getD 2 .undef, x19, .bool false]).bind fun x20 =>
  tjoin 0 (
   tif x20 (
    (gev none .idx [e14.getD 0 .undef, .int 0]).bind fun _x21 =>
    (gev none .idx [e14.getD 0 .undef, .int 0]).bind fun x22 =>
    (gev none .idx [e14.getD 0 .undef, .int 1]).bind fun _x23 =>
    (gev none .idx [e14.getD 0 .undef, .int 1]).bind fun x24 =>
    (gcall G none 422 [x0, x1, x22, x24, .flt 1056964608] 3).bind fun e25 =>
    tif (e25.getD 2 .undef) (
     some (1, [e25.getD 0 .undef, e25.getD 1 .undef, .int 1, .bool true])) (
     some (0, []))) (
    some (0, []))) fun _ =>
  (gcall G none 435 [x0, x1] 3).bind fun e21 =>
  (gev (some ((e21.getD 2 .undef), true)) .id [e21.getD 1 .undef]).bind fun x24 =>
  (gev (some ((e21.getD 2 .undef), true)) .id [x2]).bind fun x25 =>
  (gev (some ((e21.getD 2 .undef), true)) (.fcm .lss .f32) [x24, x25]).bind fun x26 =>
  (gev none .pick [e21.getD 2 .undef, x26, .bool false]).bind fun x27 =>
  tjoin 0 (
   tif x27 (
    (gev none .idx [e21.getD 0 .undef, .int 0]).bind fun _x28 =>
    (gev none .idx [e21.getD 0 .undef, .int 0]).bind fun x29 =>
    (gev none .idx [e21.getD 0 .undef, .int 1]).bind fun _x30 =>
    (gev none .idx [e21.getD 0 .undef, .int 1]).bind fun x31 =>
    (gcall G none 444 [x0, x1, x29, x31] 3).bind fun e32 =>
    tif (e32.getD 2 .undef) (
     some (1, [e32.getD 0 .undef, e32.getD 1 .undef, .int 2, .bool true])) (
     some (0, []))) (
    some (0, []))) fun _ =>
  (gcall G none 436 [x0, x1] 3).bind fun e28 =>
  (gev (some ((e28.getD 2 .undef), true)) .id [e28.getD 1 .undef]).bind fun x31 =>
  (gev (some ((e28.getD 2 .undef), true)) (.fcm .gtr .f32) [x31, .flt 0]).bind fun x32 =>
  (gev none .pick [e28.getD 2 .undef, x32, .bool false]).bind fun x33 =>
  tjoin 0 (
   tif x33 (
    (gev none .idx [e28.getD 0 .undef, .int 0]).bind fun _x34 =>
    (gev none .idx [e28.getD 0 .undef, .int 0]).bind fun x35 =>
    (gev none .idx [e28.getD 0 .undef, .int 1]).bind fun _x36 =>
    (gev none .idx [e28.getD 0 .undef, .int 1]).bind fun x37 =>
    (gcall G none 421 [x0, x1, x35, x37] 3).bind fun e38 =>
    tif (e38.getD 2 .undef) (
     some (1, [e38.getD 0 .undef, e38.getD 1 .undef, .int 3, .bool true])) (
     some (0, []))) (
    some (0, []))) fun _ =>
  (gcall G none 151 [x0, x1] 2).bind fun e34 =>
  some (0, [e34.getD 0 .undef, e34.getD 1 .undef, .int 0, .bool true]))
theorem eq500 {G fuel} (x0 x1 x2 x3) : run G fuel T500 [x0, x1, x2, x3] = S500 G fuel x0 x1 x2 x3 := by rw [run_eq]; kernel_rfl
def T501 : T :=
(cc 433 [0, 1, kT] 3 <|
oT 6 .id [5] <|
oT 6 .id [3] <|
oT 6 (.fcm .gtr .f32) [7, 8] <|
oo .pick [6, 9, kN] <|
.join 0
 (.ite 10
  (oo .idx [4, kI 0] <|
  oo .idx [4, kI 0] <|
  oo .idx [4, kI 1] <|
  oo .idx [4, kI 1] <|
  cc 423 [0, 1, 12, 14, kF 1056964608] 3 <|
  .ite 17
   (.out 1 [15, 16, kI 1])
   (.out 0 []))
  (.out 0 []))
(cc 433 [0, 1, kN] 3 <|
oT 13 .id [12] <|
oT 13 .id [2] <|
oT 13 (.fcm .lss .f32) [14, 15] <|
oo .pick [13, 16, kN] <|
.join 0
 (.ite 17
  (oo .idx [11, kI 0] <|
  oo .idx [11, kI 0] <|
  oo .idx [11, kI 1] <|
  oo .idx [11, kI 1] <|
  cc 438 [0, 1, 19, 21] 3 <|
  .ite 24
   (.out 1 [22, 23, kI 2])
   (.out 0 []))
  (.out 0 []))
(cc 437 [0, 1] 3 <|
oT 20 .id [19] <|
oT 20 (.fcm .gtr .f32) [21, kF 0] <|
oo .pick [20, 22, kN] <|
.ite 23
 (oo .idx [18, kI 0] <|
 oo .idx [18, kI 0] <|
 oo .idx [18, kI 1] <|
 oo .idx [18, kI 1] <|
 cc 420 [0, 1, 25, 27] 3 <|
 .out 0 [28, 29, kI 3])
 (cc 151 [0, 1] 2 <|
 .out 0 [24, 25, kI 0]))))
def S501 (G : Told) (_fuel : Nat) (x0 x1 x2 x3 : D) : Option (Nat × List D) :=
 (gcall G none 433 [x0, x1, .bool true] 3).bind fun e4 =>
 (gev (some ((e4.getD 2 .undef), true)) .id [e4.getD 1 .undef]).bind fun x7 =>
 (gev (some ((e4.getD 2 .undef), true)) .id [x3]).bind fun x8 =>
 (gev (some ((e4.getD 2 .undef), true)) (.fcm .gtr .f32) [x7, x8]).bind fun x9 =>
 (gev none .pick [e4.getD 2 .undef, x9, .bool false]).bind fun x10 =>
 tjoin 0 (
  tif x10 (
   (gev none .idx [e4.getD 0 .undef, .int 0]).bind fun _x11 =>
   (gev none .idx [e4.getD 0 .undef, .int 0]).bind fun x12 =>
   (gev none .idx [e4.getD 0 .undef, .int 1]).bind fun _x13 =>
   (gev none .idx [e4.getD 0 .undef, .int 1]).bind fun x14 =>
   (gcall G none 423 [x0, x1, x12, x14, .flt 1056964608] 3).bind fun e15 =>
   tif (e15.getD 2 .undef) (
    some (1, [e15.getD 0 .undef, e15.getD 1 .undef, .int 1])) (
    some (0, []))) (
   some (0, []))) fun _ =>
 (gcall G none 433 [x0, x1, .bool false] 3).bind fun e11 =>
 (gev (some ((e11.getD 2 .undef), true)) .id [e11.getD 1 .undef]).bind fun x14 =>
 (gev (some ((e11.getD 2 .undef), true)) .id [x2]).bind fun x15 =>
 (gev (some ((e11.getD 2 .undef), true)) (.fcm .lss .f32) [x14, x15]).bind fun x16 =>
 (gev none .pick [e11.getD 2 .undef, x16, .bool false]).bind fun x17 =>
 tjoin 0 (
  tif x17 (
   (gev none .idx [e11.getD 0 .undef, .int 0]).bind fun _x18 =>
   (gev none .idx [e11.getD 0 .undef, .int 0]).bind fun x19 =>
   (gev none .idx [e11.getD 0 .undef, .int 1]).bind fun _x20 =>
   (gev none .idx [e11.getD 0 .undef, .int 1]).bind fun x21 =>
   (gcall G none 438 [x0, x1, x19, x21] 3).bind fun e22 =>
   tif (e22.getD 2 .undef) (
    some (1, [e22.getD 0 .undef, e22.getD 1 .undef, .int 2])) (
    some (0, []))) (
   some (0, []))) fun _ =>
 (gcall G none 437 [x0, x1] 3).bind fun e18 =>
 (gev (some ((e18.getD 2 .undef), true)) .id [e18.getD 1 .undef]).bind fun x21 =>
 (gev (some ((e18.getD 2 .undef), true)) (.fcm .gtr .f32) [x21, .flt 0]).bind fun x22 =>
 (gev none .pick [e18.getD 2 .undef, x22, .bool false]).bind fun x23 =>
 tif x23 (
  (gev none .idx [e18.getD 0 .undef, .int 0]).bind fun _x24 =>
  (gev none .idx [e18.getD 0 .undef, .int 0]).bind fun x25 =>
  (gev none .idx [e18.getD 0 .undef, .int 1]).bind fun _x26 =>
  (gev none .idx [e18.getD 0 .undef, .int 1]).bind fun x27 =>
  (gcall G none 420 [x0, x1, x25, x27] 3).bind fun e28 =>
  some (0, [e28.getD 0 .undef, e28.getD 1 .undef, .int 3])) (
  (gcall G none 151 [x0, x1] 2).bind fun e24 =>
  some (0, [e24.getD 0 .undef, e24.getD 1 .undef, .int 0]))
theorem eq501 {G fuel} (x0 x1 x2 x3) : run G fuel T501 [x0, x1, x2, x3] = S501 G fuel x0 x1 x2 x3 := by rw [run_eq]; kernel_rfl
def T502 : T :=
(cc 150 [0, 1] 1 <|
cT 4 414 [0, 1] 1 <|
oo .pick [4, 5, kN] <|
oT 6 .id [2] <|
cT 6 1 [7] 1 <|
oo .pick [6, 8, kN] <|
oT 9 .id [3] <|
cT 9 1 [10] 1 <|
oo .pick [9, 11, kN] <|
.out 0 [12])
def S502 (G : Told) (_fuel : Nat) (x0 x1 x2 x3 : D) : Option (Nat × List D) :=
 (gcall G none 150 [x0, x1] 1).bind fun e4 =>
 (gcall G (some ((e4.getD 0 .undef), true)) 414 [x0, x1] 1).bind fun e5 =>
 (gev none .pick [e4.getD 0 .undef, e5.getD 0 .undef, .bool false]).bind fun x6 =>
 (gev (some (x6, true)) .id [x2]).bind fun x7 =>
 (gcall G (some (x6, true)) 1 [x7] 1).bind fun e8 =>
 (gev none .pick [x6, e8.getD 0 .undef, .bool false]).bind fun x9 =>
 (gev (some (x9, true)) .id [x3]).bind fun x10 =>
 (gcall G (some (x9, true)) 1 [x10] 1).bind fun e11 =>
 (gev none .pick [x9, e11.getD 0 .undef, .bool false]).bind fun x12 =>
 some (0, [x12])
theorem eq502 {G fuel} (x0 x1 x2 x3) : run G fuel T502 [x0, x1, x2, x3] = S502 G fuel x0 x1 x2 x3 := by rw [run_eq]; kernel_rfl
def T504 : T :=
(cc 403 [0, 1] 1 <|
oo .bnot [5] <|
oN 6 .id [2] <|
cN 6 1 [7] 1 <|
oN 6 .bnot [8] <|
oo .pick [6, kT, 9] <|
oN 10 .id [3] <|
cN 10 1 [11] 1 <|
oN 10 .bnot [12] <|
oo .pick [10, kT, 13] <|
oN 14 .id [4] <|
cN 14 19 [15, kI 0, kI 64] 1 <|
oN 14 .bnot [16] <|
oo .pick [14, kT, 17] <|
.ite 18
 (.out 0 [kL, kL, kL, kN])
 (cc 151 [0, 1] 2 <|
 oo .mklst [] <|
 .join 5
  (.loop [19, 20, 21, kI 0]
   (oo (.icm .lss) [25, 4] <|
   .ite 26
    (cc 500 [22, 23, 2, 3] 4 <|
    oo .bnot [30] <|
    .ite 31
     (.out 2 [kL, kL, kL, kN])
     (oo (.icm .eql) [29, kI 0] <|
     .ite 32
      (.out 1 [22, 23, 24, 25, 26])
      (oo .mklst [29] <|
      oo .app [24, 33] <|
      oo (.iar .add .i64) [25, kI 1] <|
      .out 0 [27, 28, 34, 35])))
    (.out 1 [22, 23, 24, 25, 26])))
 (.out 0 [22, 23, 24, kT])))
def S504L0 (G : Told) (x2 : D) (x3 : D) (x4 : D) : List D → Option (Nat × List D) := fun e22 =>
    (gev none (.icm .lss) [e22.getD 3 .undef, x4]).bind fun x26 =>
    tif x26 (
     (gcall G none 500 [e22.getD 0 .undef, e22.getD 1 .undef, x2, x3] 4).bind fun e27 =>
     (gev none .bnot [e27.getD 3 .undef]).bind fun x31 =>
     tif x31 (
      some (2, [(.lst []), (.lst []), (.lst []), (.bool false)])) (
      (gev none (.icm .eql) [e27.getD 2 .undef, .int 0]).bind fun x32 =>
      tif x32 (
       some (1, [e22.getD 0 .undef, e22.getD 1 .undef, e22.getD 2 .undef, e22.getD 3 .undef, x26])) (
       (gev none .mklst [e27.getD 2 .undef]).bind fun x33 =>
       (gev none .app [e22.getD 2 .undef, x33]).bind fun x34 =>
       (gev none (.iar .add .i64) [e22.getD 3 .undef, .int 1]).bind fun x35 =>
       some (0, [e27.getD 0 .undef, e27.getD 1 .undef, x34, x35])))) (
     some (1, [e22.getD 0 .undef, e22.getD 1 .undef, e22.getD 2 .undef, e22.getD 3 .undef, x26]))
def S504 (G : Told) (fuel : Nat) (x0 x1 x2 x3 x4 : D) : Option (Nat × List D) :=
 (gcall G none 403 [x0, x1] 1).bind fun e5 =>
 (gev none .bnot [e5.getD 0 .undef]).bind fun x6 =>
 (gev (some (x6, false)) .id [x2]).bind fun x7 =>
 (gcall G (some (x6, false)) 1 [x7] 1).bind fun e8 =>
 (gev (some (x6, false)) .bnot [e8.getD 0 .undef]).bind fun x9 =>
 (gev none .pick [x6, .bool true, x9]).bind fun x10 =>
 (gev (some (x10, false)) .id [x3]).bind fun x11 =>
 (gcall G (some (x10, false)) 1 [x11] 1).bind fun e12 =>
 (gev (some (x10, false)) .bnot [e12.getD 0 .undef]).bind fun x13 =>
 (gev none .pick [x10, .bool true, x13]).bind fun x14 =>
 (gev (some (x14, false)) .id [x4]).bind fun x15 =>
 (gcall G (some (x14, false)) 19 [x15, .int 0, .int 64] 1).bind fun e16 =>
 (gev (some (x14, false)) .bnot [e16.getD 0 .undef]).bind fun x17 =>
 (gev none .pick [x14, .bool true, x17]).bind fun x18 =>
 tif x18 (
  some (0, [(.lst []), (.lst []), (.lst []), (.bool false)])) (
  (gcall G none 151 [x0, x1] 2).bind fun e19 =>
  (gev none .mklst []).bind fun x21 =>
  tjoin 5 (
   iter (tbody 4 (S504L0 G x2 x3 x4)) fuel [e19.getD 0 .undef, e19.getD 1 .undef, x21, .int 0]) fun e22 =>
  some (0, [e22.getD 0 .undef, e22.getD 1 .undef, e22.getD 2 .undef, .bool true]))
theorem eq504 {G fuel} (x0 x1 x2 x3 x4) : run G fuel T504 [x0, x1, x2, x3, x4] = S504 G fuel x0 x1 x2 x3 x4 := by rw [run_eq]; kernel_rfl
def T504s : T :=
(cc 502 [0, 1, 2, 3] 1 <|
oo .bnot [5] <|
oN 6 .id [4] <|
cN 6 19 [7, kI 0, kI 64] 1 <|
oN 6 .bnot [8] <|
oo .pick [6, kT, 9] <|
.ite 10
 (.out 0 [kL, kL, kL, kN])
 (cc 151 [0, 1] 2 <|
 oo .mklst [] <|
 .join 6
  (.loop [11, 12, 13, kI 0]
   (oo (.icm .lss) [17, 4] <|
   .ite 18
    (cc 501 [14, 15, 2, 3] 3 <|
    oo (.icm .eql) [21, kI 0] <|
    .ite 22
     (.out 1 [14, 15, 16, 17, 17, 18])
     (oo .mklst [21] <|
     oo .app [16, 23] <|
     oo (.iar .add .i64) [17, kI 1] <|
     .out 0 [19, 20, 24, 25]))
    (.out 1 [14, 15, 16, 17, 17, 18])))
 (.out 0 [14, 15, 16, kT])))
def S504sL0 (G : Told) (x2 : D) (x3 : D) (x4 : D) : List D → Option (Nat × List D) := fun e14 =>
    (gev none (.icm .lss) [e14.getD 3 .undef, x4]).bind fun x18 =>
    tif x18 (
     (gcall G none 501 [e14.getD 0 .undef, e14.getD 1 .undef, x2, x3] 3).bind fun e19 =>
     (gev none (.icm .eql) [e19.getD 2 .undef, .int 0]).bind fun x22 =>
     tif x22 (
      some (1, [e14.getD 0 .undef, e14.getD 1 .undef, e14.getD 2 .undef, e14.getD 3 .undef, e14.getD 3 .undef, x18])) (
      (gev none .mklst [e19.getD 2 .undef]).bind fun x23 =>
      (gev none .app [e14.getD 2 .undef, x23]).bind fun x24 =>
      (gev none (.iar .add .i64) [e14.getD 3 .undef, .int 1]).bind fun x25 =>
      some (0, [e19.getD 0 .undef, e19.getD 1 .undef, x24, x25]))) (
     some (1, [e14.getD 0 .undef, e14.getD 1 .undef, e14.getD 2 .undef, e14.getD 3 .undef, e14.getD 3 .undef, x18]))
def S504s (G : Told) (fuel : Nat) (x0 x1 x2 x3 x4 : D) : Option (Nat × List D) :=
 (gcall G none 502 [x0, x1, x2, x3] 1).bind fun e5 =>
 (gev none .bnot [e5.getD 0 .undef]).bind fun x6 =>
 (gev (some (x6, false)) .id [x4]).bind fun x7 =>
 (gcall G (some (x6, false)) 19 [x7, .int 0, .int 64] 1).bind fun e8 =>
 (gev (some (x6, false)) .bnot [e8.getD 0 .undef]).bind fun x9 =>
 (gev none .pick [x6, .bool true, x9]).bind fun x10 =>
 tif x10 (
  some (0, [(.lst []), (.lst []), (.lst []), (.bool false)])) (
  (gcall G none 151 [x0, x1] 2).bind fun e11 =>
  (gev none .mklst []).bind fun x13 =>
  tjoin 6 (
   iter (tbody 4 (S504sL0 G x2 x3 x4)) fuel [e11.getD 0 .undef, e11.getD 1 .undef, x13, .int 0]) fun e14 =>
  some (0, [e14.getD 0 .undef, e14.getD 1 .undef, e14.getD 2 .undef, .bool true]))
theorem eq504s {G fuel} (x0 x1 x2 x3 x4) : run G fuel T504s [x0, x1, x2, x3, x4] = S504s G fuel x0 x1 x2 x3 x4 := by rw [run_eq]; kernel_rfl
def T505 : T :=
(cc 142 [0, 1, kI 1048576] 1 <|
oo (.icm .lss) [5, kI 0] <|
.ite 6
 (.out 0 [kT])
 (cc 145 [0, 1] 2 <|
 cc 504 [7, 8, 2, 3, 4] 4 <|
 cc 145 [0, 1] 2 <|
 cc 504 [13, 14, 2, 3, 4] 4 <|
 cc 146 [15, 16, 9, 10] 1 <|
 oo .bnot [19] <|
 cN 20 100 [17, 11] 1 <|
 oN 20 .bnot [21] <|
 oo .pick [20, kT, 22] <|
 oN 23 .id [18] <|
 oN 23 .id [12] <|
 oN 23 .bne [24, 25] <|
 oo .pick [23, kT, 26] <|
 .ite 27
  (.out 0 [kN])
  (cc 145 [0, 1] 2 <|
  cc 146 [13, 14, 28, 29] 1 <|
  oo .bnot [30] <|
  .ite 31
   (.out 0 [kN])
   (cc 147 [13, 14, kI 1] 3 <|
   oo (.icm .lss) [32, kI 0] <|
   cN 35 146 [15, 16, 9, 10] 1 <|
   oN 35 .bnot [36] <|
   oo .pick [35, kT, 37] <|
   cN 38 100 [17, 11] 1 <|
   oN 38 .bnot [39] <|
   oo .pick [38, kT, 40] <|
   oN 41 .id [18] <|
   oN 41 .id [12] <|
   oN 41 .bne [42, 43] <|
   oo .pick [41, kT, 44] <|
   .ite 45
    (.out 0 [kN])
    (cc 147 [15, 16, kI 1] 3 <|
    cc 102 [17, 46] 2 <|
    cc 148 [47, 48, kI 1] 1 <|
    oo (.icm .lss) [51, kI 0] <|
    .ite 52
     (.out 0 [kN])
     (cc 104 [50, 51] 1 <|
     oo (.icm .lss) [53, kI 0] <|
     .ite 54
      (.out 0 [kN])
      (oo (.icm .neq) [53, 49] <|
      .ite 55
       (.out 0 [kN])
       (cc 145 [0, 1] 2 <|
       cc 504 [56, 57, 2, 3, 4] 4 <|
       cc 146 [58, 59, 9, 10] 1 <|
       oo .bnot [62] <|
       cN 63 100 [60, 11] 1 <|
       oN 63 .bnot [64] <|
       oo .pick [63, kT, 65] <|
       oN 66 .id [61] <|
       oN 66 .id [12] <|
       oN 66 .bne [67, 68] <|
       oo .pick [66, kT, 69] <|
       .ite 70
        (.out 0 [kN])
        (cc 148 [47, 48, kI 1] 1 <|
        oo (.icm .lss) [71, kI 0] <|
        .ite 72
         (.out 0 [kN])
         (cc 104 [50, 71] 1 <|
         oo (.icm .lss) [73, kI 0] <|
         .ite 74
          (.out 0 [kN])
          (oo (.icm .neq) [73, 49] <|
          .ite 75
           (.out 0 [kN])
           (.out 0 [kT]))))))))))))
def S505 (G : Told) (_fuel : Nat) (x0 x1 x2 x3 x4 : D) : Option (Nat × List D) :=
 (gcall G none 142 [x0, x1, .int 1048576] 1).bind fun e5 =>
 (gev none (.icm .lss) [e5.getD 0 .undef, .int 0]).bind fun x6 =>
 tif x6 (
  some (0, [.bool true])) (
  (gcall G none 145 [x0, x1] 2).bind fun e7 =>
  (gcall G none 504 [e7.getD 0 .undef, e7.getD 1 .undef, x2, x3, x4] 4).bind fun e9 =>
  (gcall G none 145 [x0, x1] 2).bind fun e13 =>
  (gcall G none 504 [e13.getD 0 .undef, e13.getD 1 .undef, x2, x3, x4] 4).bind fun e15 =>
  (gcall G none 146 [e15.getD 0 .undef, e15.getD 1 .undef, e9.getD 0 .undef, e9.getD 1 .undef] 1).bind fun e19 =>
  (gev none .bnot [e19.getD 0 .undef]).bind fun x20 =>
  (gcall G (some (x20, false)) 100 [e15.getD 2 .undef, e9.getD 2 .undef] 1).bind fun e21 =>
  (gev (some (x20, false)) .bnot [e21.getD 0 .undef]).bind fun x22 =>
  (gev none .pick [x20, .bool true, x22]).bind fun x23 =>
  (gev (some (x23, false)) .id [e15.getD 3 .undef]).bind fun x24 =>
  (gev (some (x23, false)) .id [e9.getD 3 .undef]).bind fun x25 =>
  (gev (some (x23, false)) .bne [x24, x25]).bind fun x26 =>
  (gev none .pick [x23, .bool true, x26]).bind fun x27 =>
  tif x27 (
   some (0, [.bool false])) (
   (gcall G none 145 [x0, x1] 2).bind fun e28 =>
   (gcall G none 146 [e13.getD 0 .undef, e13.getD 1 .undef, e28.getD 0 .undef, e28.getD 1 .undef] 1).bind fun e30 =>
   (gev none .bnot [e30.getD 0 .undef]).bind fun x31 =>
   tif x31 (
    some (0, [.bool false])) (
    (gcall G none 147 [e13.getD 0 .undef, e13.getD 1 .undef, .int 1] 3).bind fun e32 =>
    (gev none (.icm .lss) [e32.getD 0 .undef, .int 0]).bind fun x35 =>
    (gcall G (some (x35, false)) 146 [e15.getD 0 .undef, e15.getD 1 .undef, e9.getD 0 .undef, e9.getD 1 .undef] 1).bind fun e36 =>
    (gev (some (x35, false)) .bnot [e36.getD 0 .undef]).bind fun x37 =>
    (gev none .pick [x35, .bool true, x37]).bind fun x38 =>
    (gcall G (some (x38, false)) 100 [e15.getD 2 .undef, e9.getD 2 .undef] 1).bind fun e39 =>
    (gev (some (x38, false)) .bnot [e39.getD 0 .undef]).bind fun x40 =>
    (gev none .pick [x38, .bool true, x40]).bind fun x41 =>
    (gev (some (x41, false)) .id [e15.getD 3 .undef]).bind fun x42 =>
    (gev (some (x41, false)) .id [e9.getD 3 .undef]).bind fun x43 =>
    (gev (some (x41, false)) .bne [x42, x43]).bind fun x44 =>
    (gev none .pick [x41, .bool true, x44]).bind fun x45 =>
    tif x45 (
     some (0, [.bool false])) (
     (gcall G none 147 [e15.getD 0 .undef, e15.getD 1 .undef, .int 1] 3).bind fun e46 =>
     (gcall G none 102 [e15.getD 2 .undef, e46.getD 0 .undef] 2).bind fun e49 =>
     (gcall G none 148 [e46.getD 1 .undef, e46.getD 2 .undef, .int 1] 1).bind fun e51 =>
     (gev none (.icm .lss) [e51.getD 0 .undef, .int 0]).bind fun x52 =>
     tif x52 (
      some (0, [.bool false])) (
      (gcall G none 104 [e49.getD 1 .undef, e51.getD 0 .undef] 1).bind fun e53 =>
      (gev none (.icm .lss) [e53.getD 0 .undef, .int 0]).bind fun x54 =>
      tif x54 (
       some (0, [.bool false])) (
       (gev none (.icm .neq) [e53.getD 0 .undef, e49.getD 0 .undef]).bind fun x55 =>
       tif x55 (
        some (0, [.bool false])) (
        (gcall G none 145 [x0, x1] 2).bind fun e56 =>
        (gcall G none 504 [e56.getD 0 .undef, e56.getD 1 .undef, x2, x3, x4] 4).bind fun e58 =>
        (gcall G none 146 [e58.getD 0 .undef, e58.getD 1 .undef, e9.getD 0 .undef, e9.getD 1 .undef] 1).bind fun e62 =>
        (gev none .bnot [e62.getD 0 .undef]).bind fun x63 =>
        (gcall G (some (x63, false)) 100 [e58.getD 2 .undef, e9.getD 2 .undef] 1).bind fun e64 =>
        (gev (some (x63, false)) .bnot [e64.getD 0 .undef]).bind fun x65 =>
        (gev none .pick [x63, .bool true, x65]).bind fun x66 =>
        (gev (some (x66, false)) .id [e58.getD 3 .undef]).bind fun x67 =>
        (gev (some (x66, false)) .id [e9.getD 3 .undef]).bind fun x68 =>
        (gev (some (x66, false)) .bne [x67, x68]).bind fun x69 =>
        (gev none .pick [x66, .bool true, x69]).bind fun x70 =>
        tif x70 (
         some (0, [.bool false])) (
         (gcall G none 148 [e46.getD 1 .undef, e46.getD 2 .undef, .int 1] 1).bind fun e71 =>
         (gev none (.icm .lss) [e71.getD 0 .undef, .int 0]).bind fun x72 =>
         tif x72 (
          some (0, [.bool false])) (
          (gcall G none 104 [e49.getD 1 .undef, e71.getD 0 .undef] 1).bind fun e73 =>
          (gev none (.icm .lss) [e73.getD 0 .undef, .int 0]).bind fun x74 =>
          tif x74 (
           some (0, [.bool false])) (
           (gev none (.icm .neq) [e73.getD 0 .undef, e49.getD 0 .undef]).bind fun x75 =>
           tif x75 (
            some (0, [.bool false])) (
            some (0, [.bool true]))))))))))))
theorem eq505 {G fuel} (x0 x1 x2 x3 x4) : run G fuel T505 [x0, x1, x2, x3, x4] = S505 G fuel x0 x1 x2 x3 x4 := by rw [run_eq]; kernel_rfl
theorem bstN_num {num : E2 → Option Nat} {bet : Nat → Nat → Bool} {es : List E2} : ∀ {i j v : Nat}, bstN num bet es i = some (j, v) → num (es.getD j (0, 0)) = some v
 | 0, _, _, h => by cases h
 | i + 1, j, v, h => by
  have h : bstS num bet es (bstN num bet es i) i = some (j, v) := h;unfold bstS at h;split at h
  ·exact bstN_num h
  ·rename_i x hx
   split at h
   ·simp only [Option.some.injEq, Prod.mk.injEq] at h
    rw [← h.1, ← h.2];exact hx
   ·exact bstN_num h
theorem edg_ok {n : Nat} {ts : List (List Int)} (hv : validP n ts = true) {j : Nat} (hj : j < (edgL ts n).length) : okP n ts ((edgL ts n).getD j (0, 0)).1 ((edgL ts n).getD j (0, 0)).2 = true := by
 have hm : (edgL ts n).getD j (0, 0) ∈ edgL ts n := by rw [List.getD_eq_getElem?_getD, List.getElem?_eq_getElem hj];exact List.getElem_mem hj
 generalize (edgL ts n).getD j (0, 0) = e at hm
 obtain ⟨a, b, ha, hb, hab, _, rfl⟩ := (edgN_mem ts n n e).1 hm
 unfold okP inr
 rw [hv]
 simp
 omega
theorem good_ok {vs : List V3} {ts : List (List Int)} (h : goodM vs ts = true) : validP vs.length ts = true ∧ sheetP ts = true := by
 unfold goodM at h
 simpa using h
theorem szM_good {vs : List V3} {ts : List (List Int)} (h : validP vs.length ts = true) : szM vs ts ≤ 1048576 := by
 obtain ⟨h1, h2⟩ := valid_len h
 unfold szM
 rw [totL_all (tri3 h)]
 omega
theorem ok_pair {n : Nat} {ts : List (List Int)} {p q : Int} (hs : sheetP ts = true) (h : okP n ts p q = true) : pairP n ts p q = true := by
 unfold okP at h
 unfold pairP
 rw [Bool.and_eq_true] at h
 rw [h.1, hs]
 simpa using h.2
theorem bstE_at {es : List E2} {st : Option (Nat × Nat)} {cmp : Nat → Bool} {ok : E2 → Bool} {e : E2} (h : bstE es st cmp ok = some e) : ∃ j v, st = some (j, v) ∧ es.getD j (0, 0) = e ∧ cmp v = true ∧ ok e = true := by
 unfold bstE at h
 obtain ⟨⟨j, v⟩, h1, h2⟩ := Option.bind_eq_some_iff.1 h
 split at h2
 ·rename_i hh
  simp only [Option.some.injEq] at h2;subst h2;rw [Bool.and_eq_true] at hh;exact ⟨j, v, h1, rfl, hh.1, hh.2⟩
 ·cases h2
theorem mend_good {vs : List V3} {ts : List (List Int)} {x y : Nat} (h : goodM vs ts = true) : goodM (mendM vs ts x y).1 (mendM vs ts x y).2.1 = true := by
 obtain ⟨hv, hs⟩ := good_ok h
 unfold mendM
 split
 ·rename_i e he
  obtain ⟨_, _, _, _, _, hg⟩ := bstE_at he;unfold goodS at hg;unfold goodM splM;rw [Bool.and_eq_true] at hg;simpa using hg.2
 ·split
  ·rename_i e he
   obtain ⟨j, v, h1, rfl, _, hg⟩ := bstE_at he;obtain ⟨_, hp, hq, hpq⟩ := okP_ok (edg_ok hv (bstN_lt h1));rw [okJ_eq] at hg;simp only [Bool.and_eq_true] at hg;unfold goodM joiM;simp only [joinV_len hq, valid_join hv hp hq hpq, hg.2.2.1, Bool.and_self]
  ·split
   ·rename_i e he
    obtain ⟨j, v, h1, rfl, _, hg⟩ := bstE_at he;obtain ⟨_, _, _, hpq⟩ := okP_ok (edg_ok hv (bstN_lt h1));unfold goodM fliM;simp only [flip_valid hv hs hpq hg, flip_sheet hv hs hpq hg, Bool.and_self]
   ·exact h
theorem mendR_good {x y : Nat} : ∀ {r : Nat} {vs : List V3} {ts : List (List Int)} {acts : List Int}, goodM vs ts = true → goodM (mendR x y r vs ts acts).1 (mendR x y r vs ts acts).2.1 = true ∧ (mendR x y r vs ts acts).2.2.length ≤ acts.length + r
 | 0, _, _, _, h => ⟨h, by simp [mendR]⟩
 | r + 1, vs, ts, acts, h => by
  unfold mendR;split
  ·exact ⟨h, by simp⟩
  ·have := mendR_good (x := x) (y := y) (r := r) (acts := acts ++ [(mendM vs ts x y).2.2]) (mend_good (x := x) (y := y) h)
   refine ⟨this.1, Nat.le_trans this.2 ?_⟩;simp;omega
theorem in19 (n : Int) : F19 [.int n, .int 0, .int 64] = some [.bool (inr 65 n)] := rfl
theorem ilnil : D.lst [] = il [] := rfl
theorem p_bne {c d : Bool} : gev none .bne [.bool c, .bool d] = some (.bool (c != d)) := (rfl)
attribute [local irreducible] IntKind.wrap il tl vl bo mpD kD edl inr validP sheetP atL edgL okJ pairP joinT joinV twinB eulP goodS flipB mendM okM goodM bstN

theorem mend_stage {G : Told} {k m : Nat} {a1 : List D} {ar : D → D → List D} {cm : Prim} {lim : Nat} {cmp : Nat → Bool} {ok : E2 → Bool} {A B : E2 → D} {out : D → D → List D} {K : Option (Nat × List D)} {es : List E2} {st : Option (Nat × Nat)}
  (hc : ∀ v, gev none cm [.flt v, .flt lim] = some (.bool (cmp v)))
  (h1 : gcall G none k a1 3 = some (bstR es st))
  (h2 : ∀ j v, st = some (j, v) → gcall G none m (ar (.int (es.getD j (0, 0)).1) (.int (es.getD j (0, 0)).2)) 3 = some (if ok (es.getD j (0, 0)) = true then [A (es.getD j (0, 0)), B (es.getD j (0, 0)), .bool true] else [vl [], tl [], .bool false])) :
  ((gcall G none k a1 3).bind fun e14 =>
  (gev (some ((e14.getD 2 .undef), true)) .id [(e14.getD 1 .undef)]).bind fun x17 =>
  (gev (some ((e14.getD 2 .undef), true)) .id [.flt lim]).bind fun x18 =>
  (gev (some ((e14.getD 2 .undef), true)) cm [x17, x18]).bind fun x19 =>
  (gev none .pick [(e14.getD 2 .undef), x19, (.bool false)]).bind fun x20 =>
  tjoin 0 (
   tif x20 (
    (gev none .idx [(e14.getD 0 .undef), (.int 0)]).bind fun _ =>
    (gev none .idx [(e14.getD 0 .undef), (.int 0)]).bind fun x22 =>
    (gev none .idx [(e14.getD 0 .undef), (.int 1)]).bind fun _ =>
    (gev none .idx [(e14.getD 0 .undef), (.int 1)]).bind fun x24 =>
    (gcall G none m (ar x22 x24) 3).bind fun e25 =>
    tif (e25.getD 2 .undef) (
     some (1, out (e25.getD 0 .undef) (e25.getD 1 .undef))) (
     some (0, []))) (
    some (0, []))) fun _ => K) = match bstE es st cmp ok with | some e => some (0, out (A e) (B e)) | none => K := by
 rw [h1]
 cases st with
 | none => rfl
 | some s =>
  obtain ⟨j, v⟩ := s;have h2 := h2 j v rfl;obtain ⟨p, q, he⟩ : ∃ p q, es.getD j (0, 0) = (p, q) := ⟨_, _, rfl⟩;rw [he] at h2;have hb : bstE es (some (j, v)) cmp ok = if (cmp v && ok (p, q)) = true then some (p, q) else none := by unfold bstE;simp only [Option.bind_some, he]
  rw [bstR_some he, hb];have hv := hc v
  cases hcv : cmp v with
  | false =>
   rw [hcv] at hv;rw [Bool.false_and, if_neg (by simp)]
   simp only [ev0, hv, j_0, List.length_nil, if_true]
  | true =>
   rw [hcv] at hv;rw [Bool.true_and]
   cases hok : ok (p, q) with
   | false =>
    rw [hok, if_neg (by simp)] at h2
    rw [if_neg (by simp)]
    simp only [ev0, hv, p_j0, p_j1, h2, j_0, List.length_nil, if_true]
   | true =>
    rw [hok, if_pos rfl] at h2;rw [if_pos rfl];simp only [ev0, hv, p_j0, p_j1, h2, j_1]
theorem mend_stage0 {G : Told} {k m : Nat} {a1 : List D} {ar : D → D → List D} {cm : Prim} {lim : Nat} {cmp : Nat → Bool} {ok : E2 → Bool} {A B : E2 → D} {out : D → D → List D} {K : Option (Nat × List D)} {es : List E2} {st : Option (Nat × Nat)}
  (hc : ∀ v, gev none cm [.flt v, .flt lim] = some (.bool (cmp v)))
  (h1 : gcall G none k a1 3 = some (bstR es st))
  (h2 : ∀ j v, st = some (j, v) → gcall G none m (ar (.int (es.getD j (0, 0)).1) (.int (es.getD j (0, 0)).2)) 3 = some (if ok (es.getD j (0, 0)) = true then [A (es.getD j (0, 0)), B (es.getD j (0, 0)), .bool true] else [vl [], tl [], .bool false])) :
  ((gcall G none k a1 3).bind fun e14 =>
  (gev (some ((e14.getD 2 .undef), true)) .id [(e14.getD 1 .undef)]).bind fun x17 =>
  (gev (some ((e14.getD 2 .undef), true)) cm [x17, .flt lim]).bind fun x19 =>
  (gev none .pick [(e14.getD 2 .undef), x19, (.bool false)]).bind fun x20 =>
  tjoin 0 (
   tif x20 (
    (gev none .idx [(e14.getD 0 .undef), (.int 0)]).bind fun _ =>
    (gev none .idx [(e14.getD 0 .undef), (.int 0)]).bind fun x22 =>
    (gev none .idx [(e14.getD 0 .undef), (.int 1)]).bind fun _ =>
    (gev none .idx [(e14.getD 0 .undef), (.int 1)]).bind fun x24 =>
    (gcall G none m (ar x22 x24) 3).bind fun e25 =>
    tif (e25.getD 2 .undef) (
     some (1, out (e25.getD 0 .undef) (e25.getD 1 .undef))) (
     some (0, []))) (
    some (0, []))) fun _ => K) = match bstE es st cmp ok with | some e => some (0, out (A e) (B e)) | none => K := by
 rw [h1]
 cases st with
 | none => rfl
 | some s =>
  obtain ⟨j, v⟩ := s;have h2 := h2 j v rfl;obtain ⟨p, q, he⟩ : ∃ p q, es.getD j (0, 0) = (p, q) := ⟨_, _, rfl⟩;rw [he] at h2;have hb : bstE es (some (j, v)) cmp ok = if (cmp v && ok (p, q)) = true then some (p, q) else none := by unfold bstE;simp only [Option.bind_some, he]
  rw [bstR_some he, hb];have hv := hc v
  cases hcv : cmp v with
  | false =>
   rw [hcv] at hv;rw [Bool.false_and, if_neg (by simp)]
   simp only [ev0, hv, j_0, List.length_nil, if_true]
  | true =>
   rw [hcv] at hv;rw [Bool.true_and]
   cases hok : ok (p, q) with
   | false =>
    rw [hok, if_neg (by simp)] at h2
    rw [if_neg (by simp)]
    simp only [ev0, hv, p_j0, p_j1, h2, j_0, List.length_nil, if_true]
   | true =>
    rw [hok, if_pos rfl] at h2;rw [if_pos rfl];simp only [ev0, hv, p_j0, p_j1, h2, j_1]
theorem run502 {G : Told} (g150 : G 150 = F150) (g414 : G 414 = F414) (g1 : G 1 = F1) : Runs G F502 T502 := by
 intro ds rs h
 unfold F502 at h
 split at h
 case h_2 => cases h
 rename_i a b x y
 obtain ⟨vs, ha, h⟩ := Option.bind_eq_some_iff.1 h
 obtain ⟨ts, hb, h⟩ := Option.bind_eq_some_iff.1 h
 rw [dV_inv ha, dT_inv hb]
 split at h
 case isFalse => cases h
 rename_i hc
 simp only [Option.some.injEq] at h
 subst h
 clear ha
 clear hb
 refine ⟨0, ?_⟩
 rw [eq502]
 unfold S502
 have c1 : gcall G none 150 [vl vs, tl ts] 1 = some [.bool (validP vs.length ts)] := gcall_on g150 rfl (F150_m hc) rfl
 have c2 : gcall G none 1 [.flt x] 1 = some [.bool (finP x)] := gcall_on g1 rfl rfl rfl
 have c3 : gcall G none 1 [.flt y] 1 = some [.bool (finP y)] := gcall_on g1 rfl rfl rfl
 have e : okM vs ts x y = (validP vs.length ts && sheetP ts && (finP x && finP y)) := by unfold okM goodM; rfl
 rw [e]
 cases hv : validP vs.length ts with
 | false =>
  rw [hv] at c1;simp only [ev0, List.replicate, c1, Bool.false_and]
 | true =>
  have c4 : gcall G none 414 [vl vs, tl ts] 1 = some [.bool (sheetP ts)] := gcall_on g414 rfl (F414_m hv) rfl;rw [hv] at c1
  cases hs : sheetP ts with
  | false =>
   rw [hs] at c4;simp only [ev0, c4, List.replicate, c1, Bool.false_and, Bool.true_and]
  | true =>
   rw [hs] at c4
   cases hx : finP x with
   | false =>
    rw [hx] at c2;simp only [ev0, c4, List.replicate, c1, c2, Bool.false_and, Bool.true_and, Bool.and_self]
   | true =>
    rw [hx] at c2;simp only [ev0, c4, c1, c2, c3, Bool.true_and, Bool.and_self]
theorem run501 {G : Told} (g433 : G 433 = F433) (g437 : G 437 = F437) (g423 : G 423 = F423) (g438 : G 438 = F438) (g420 : G 420 = F420) (g151 : G 151 = F151) : Runs G F501 T501 := by
 intro ds rs h
 unfold F501 at h
 split at h
 case h_2 => cases h
 rename_i a b x y
 obtain ⟨vs, ha, h⟩ := Option.bind_eq_some_iff.1 h
 obtain ⟨ts, hb, h⟩ := Option.bind_eq_some_iff.1 h
 rw [dV_inv ha, dT_inv hb]
 split at h
 case isFalse => cases h
 rename_i hc
 simp only [Option.some.injEq] at h
 subst h
 clear ha
 clear hb
 refine ⟨0, ?_⟩
 rw [eq501]
 unfold S501
 obtain ⟨hv, hs⟩ := good_ok hc
 have hsz := szM_good hv
 have hcp : gcall G none 151 [vl vs, tl ts] 2 = some [vl vs, tl ts] := gcall_on g151 rfl (F145_m hsz) rfl
 have l1 : gcall G none 433 [vl vs, tl ts, .bool true] 3 = some (bstR (edgL ts vs.length) (bstL vs ts true)) := gcall_on g433 rfl (F433_m hv) (by generalize bstL _ _ _ = z; cases z <;> rfl)
 have l2 : gcall G none 433 [vl vs, tl ts, .bool false] 3 = some (bstR (edgL ts vs.length) (bstL vs ts false)) := gcall_on g433 rfl (F433_m hv) (by generalize bstL _ _ _ = z; cases z <;> rfl)
 have l3 : gcall G none 437 [vl vs, tl ts] 3 = some (bstR (edgL ts vs.length) (bstF vs ts)) := gcall_on g437 rfl (F437_m hv) (by generalize bstF _ _ = z; cases z <;> rfl)
 have s1 : ∀ j v, bstL vs ts true = some (j, v) → gcall G none 423 [vl vs, tl ts, .int ((edgL ts vs.length).getD j (0, 0)).1, .int ((edgL ts vs.length).getD j (0, 0)).2, .flt 1056964608] 3 = some (if goodS vs.length ts ((edgL ts vs.length).getD j (0, 0)).1 ((edgL ts vs.length).getD j (0, 0)).2 = true then [vl (splM vs ts ((edgL ts vs.length).getD j (0, 0))).1, tl (splM vs ts ((edgL ts vs.length).getD j (0, 0))).2.1, .bool true] else [vl [], tl [], .bool false]) := fun j v h => by have hok := edg_ok hv (bstN_lt h);exact gcall_on g423 rfl (F423_m ⟨hok, hsz⟩) (by split <;> rfl)
 have s2 : ∀ j v, bstL vs ts false = some (j, v) → gcall G none 438 [vl vs, tl ts, .int ((edgL ts vs.length).getD j (0, 0)).1, .int ((edgL ts vs.length).getD j (0, 0)).2] 3 = some (if okJ vs.length ts ((edgL ts vs.length).getD j (0, 0)).1 ((edgL ts vs.length).getD j (0, 0)).2 = true then [vl (joiM vs ts ((edgL ts vs.length).getD j (0, 0))).1, tl (joiM vs ts ((edgL ts vs.length).getD j (0, 0))).2.1, .bool true] else [vl [], tl [], .bool false]) := fun j v h => by have hok := edg_ok hv (bstN_lt h);exact gcall_on g438 rfl (F438_m hok) (by split <;> rfl)
 have s3 : ∀ j v, bstF vs ts = some (j, v) → gcall G none 420 [vl vs, tl ts, .int ((edgL ts vs.length).getD j (0, 0)).1, .int ((edgL ts vs.length).getD j (0, 0)).2] 3 = some (if flipB ts ((edgL ts vs.length).getD j (0, 0)).1 ((edgL ts vs.length).getD j (0, 0)).2 = true then [vl (fliM vs ts ((edgL ts vs.length).getD j (0, 0))).1, tl (fliM vs ts ((edgL ts vs.length).getD j (0, 0))).2.1, .bool true] else [vl [], tl [], .bool false]) := fun j v h => by have hok := edg_ok hv (bstN_lt h);exact gcall_on g420 rfl (F420_m ⟨hok, hsz⟩) (by split <;> rfl)
 refine (mend_stage (out := fun a b => [a, b, .int 1]) (ar := fun a b => [vl vs, tl ts, a, b, .flt 1056964608]) (cmp := fun v => fgt .f32 v y) (ok := fun e => goodS vs.length ts e.1 e.2) (A := fun e => vl (splM vs ts e).1) (B := fun e => tl (splM vs ts e).2.1) (fun _ => p_fgtr) l1 s1).trans ?_
 unfold mendM longE
 cases bstE (edgL ts vs.length) (bstL vs ts true) (fun v => fgt .f32 v y) (fun e => goodS vs.length ts e.1 e.2) with
 | some e => rfl
 | none =>
  refine (mend_stage (out := fun a b => [a, b, .int 2]) (ar := fun a b => [vl vs, tl ts, a, b]) (cmp := fun v => flt .f32 v x) (ok := fun e => okJ vs.length ts e.1 e.2) (A := fun e => vl (joiM vs ts e).1) (B := fun e => tl (joiM vs ts e).2.1) (fun _ => p_flss) l2 s2).trans ?_
  unfold shortE
  cases bstE (edgL ts vs.length) (bstL vs ts false) (fun v => flt .f32 v x) (fun e => okJ vs.length ts e.1 e.2) with
  | some e => rfl
  | none =>
   unfold flipE;rw [l3]
   cases hst : bstF vs ts with
   | none => simp only [ev0, bstR_none, hcp]; rfl
   | some s =>
    obtain ⟨j, v⟩ := s;have s3 := s3 j v hst;have hnum : numF vs ts ((edgL ts vs.length).getD j (0, 0)) = some v := bstN_num hst;have hfl : flipB ts ((edgL ts vs.length).getD j (0, 0)).1 ((edgL ts vs.length).getD j (0, 0)).2 = true := by
     unfold numF at hnum;split at hnum
     ·assumption
     ·cases hnum
    obtain ⟨p, q, he⟩ : ∃ p q, (edgL ts vs.length).getD j (0, 0) = (p, q) := ⟨_, _, rfl⟩;rw [if_pos hfl, he] at s3;rw [bstR_some he];rw [he] at hfl;have hb : bstE (edgL ts vs.length) (some (j, v)) (fun v => fgt .f32 v 0) (fun e => flipB ts e.1 e.2) = if fgt .f32 v 0 = true then some (p, q) else none := by unfold bstE;simp only [Option.bind_some, he, hfl, Bool.and_true]
    rw [hb]
    cases hf : fgt .f32 v 0 with
    | false =>
     rw [if_neg (by simp)]
     simp only [ev0, p_fgtr, hf, hcp]
    | true =>
     rw [if_pos rfl];simp only [ev0, p_fgtr, hf, p_j0, p_j1, s3];rfl
theorem run500 {G : Told} (g403 : G 403 = F403) (g1 : G 1 = F1) (g434 : G 434 = F434) (g422 : G 422 = F422) (g435 : G 435 = F435) (g444 : G 444 = F444) (g436 : G 436 = F436) (g421 : G 421 = F421) (g151 : G 151 = F151) : Runs G F500 T500 := by
 intro ds rs h
 unfold F500 at h
 split at h
 case h_2 => cases h
 rename_i a b x y
 obtain ⟨vs, ha, h⟩ := Option.bind_eq_some_iff.1 h
 obtain ⟨ts, hb, h⟩ := Option.bind_eq_some_iff.1 h
 rw [dV_inv ha, dT_inv hb]
 split at h
 case isFalse => cases h
 rename_i hc
 simp only [Option.some.injEq] at h
 subst h
 clear ha
 clear hb
 refine ⟨0, ?_⟩
 rw [eq500]
 unfold S500
 have c1 : gcall G none 403 [vl vs, tl ts] 1 = some [.bool (goodM vs ts)] := gcall_on g403 rfl (by rw [F403_m hc]; unfold goodM; rfl) rfl
 have c2 : gcall G none 1 [.flt x] 1 = some [.bool (finP x)] := gcall_on g1 rfl rfl rfl
 have c3 : gcall G none 1 [.flt y] 1 = some [.bool (finP y)] := gcall_on g1 rfl rfl rfl
 have e : okM vs ts x y = (goodM vs ts && (finP x && finP y)) := by unfold okM; rfl
 rw [e]
 cases hg : goodM vs ts with
 | false =>
  rw [hg] at c1;rw [Bool.false_and, if_neg (by simp), ← vlnil, ← tlnil]
  simp only [ev0, List.replicate, c1]
 | true =>
 rw [hg] at c1
 rw [Bool.true_and]
 cases hx : finP x with
 | false =>
  rw [hx] at c2;rw [Bool.false_and, if_neg (by simp), ← vlnil, ← tlnil]
  simp only [ev0, List.replicate, c1, c2]
 | true =>
 rw [hx] at c2
 rw [Bool.true_and]
 cases hy : finP y with
 | false =>
  rw [hy] at c3;rw [if_neg (by simp), ← vlnil, ← tlnil]
  simp only [ev0, c1, c2, c3]
 | true =>
 rw [hy] at c3
 rw [if_pos rfl]
 obtain ⟨hv, hs⟩ := good_ok hg
 have hcp : gcall G none 151 [vl vs, tl ts] 2 = some [vl vs, tl ts] := gcall_on g151 rfl (F145_m hc) rfl
 have l1 : gcall G none 434 [vl vs, tl ts] 3 = some (bstR (edgL ts vs.length) (bstL vs ts true)) := gcall_on g434 rfl (by rw [F434_m hc, if_pos hv]; unfold bstP; rfl) (by generalize bstL _ _ _ = z; cases z <;> rfl)
 have l2 : gcall G none 435 [vl vs, tl ts] 3 = some (bstR (edgL ts vs.length) (bstL vs ts false)) := gcall_on g435 rfl (by rw [F435_m hc, if_pos hv]; unfold bstP; rfl) (by generalize bstL _ _ _ = z; cases z <;> rfl)
 have l3 : gcall G none 436 [vl vs, tl ts] 3 = some (bstR (edgL ts vs.length) (bstF vs ts)) := gcall_on g436 rfl (by rw [F436_m hc, hv, hs, Bool.and_self, if_pos rfl]; unfold bstP; rfl) (by generalize bstF _ _ = z; cases z <;> rfl)
 have s1 : ∀ j v, bstL vs ts true = some (j, v) → gcall G none 422 [vl vs, tl ts, .int ((edgL ts vs.length).getD j (0, 0)).1, .int ((edgL ts vs.length).getD j (0, 0)).2, .flt 1056964608] 3 = some (if goodS vs.length ts ((edgL ts vs.length).getD j (0, 0)).1 ((edgL ts vs.length).getD j (0, 0)).2 = true then [vl (splM vs ts ((edgL ts vs.length).getD j (0, 0))).1, tl (splM vs ts ((edgL ts vs.length).getD j (0, 0))).2.1, .bool true] else [vl [], tl [], .bool false]) := fun j v h => by have hok := edg_ok hv (bstN_lt h);exact gcall_on g422 rfl (by rw [F422_m hc, ok_pair hs hok, show sharP 1056964608 = true by decide +kernel, Bool.true_and, Bool.true_and]; rfl) (by split <;> rfl)
 have s2 : ∀ j v, bstL vs ts false = some (j, v) → gcall G none 444 [vl vs, tl ts, .int ((edgL ts vs.length).getD j (0, 0)).1, .int ((edgL ts vs.length).getD j (0, 0)).2] 3 = some (if okJ vs.length ts ((edgL ts vs.length).getD j (0, 0)).1 ((edgL ts vs.length).getD j (0, 0)).2 = true then [vl (joiM vs ts ((edgL ts vs.length).getD j (0, 0))).1, tl (joiM vs ts ((edgL ts vs.length).getD j (0, 0))).2.1, .bool true] else [vl [], tl [], .bool false]) := fun j v h => by have hok := edg_ok hv (bstN_lt h);exact gcall_on g444 rfl (by rw [F444_m hc, ok_pair hs hok, Bool.true_and]; rfl) (by split <;> rfl)
 have s3 : ∀ j v, bstF vs ts = some (j, v) → gcall G none 421 [vl vs, tl ts, .int ((edgL ts vs.length).getD j (0, 0)).1, .int ((edgL ts vs.length).getD j (0, 0)).2] 3 = some (if flipB ts ((edgL ts vs.length).getD j (0, 0)).1 ((edgL ts vs.length).getD j (0, 0)).2 = true then [vl (fliM vs ts ((edgL ts vs.length).getD j (0, 0))).1, tl (fliM vs ts ((edgL ts vs.length).getD j (0, 0))).2.1, .bool true] else [vl [], tl [], .bool false]) := fun j v h => by have hok := edg_ok hv (bstN_lt h);exact gcall_on g421 rfl (by rw [F421_m hc, ok_pair hs hok, Bool.true_and]; rfl) (by split <;> rfl)
 simp only [ev0, c1, c2, c3]
 refine (mend_stage (out := fun a b => [a, b, .int 1, .bool true]) (ar := fun a b => [vl vs, tl ts, a, b, .flt 1056964608]) (cmp := fun v => fgt .f32 v y) (ok := fun e => goodS vs.length ts e.1 e.2) (A := fun e => vl (splM vs ts e).1) (B := fun e => tl (splM vs ts e).2.1) (fun _ => p_fgtr) l1 s1).trans ?_
 unfold mendM longE
 cases bstE (edgL ts vs.length) (bstL vs ts true) (fun v => fgt .f32 v y) (fun e => goodS vs.length ts e.1 e.2) with
 | some e => rfl
 | none =>
  refine (mend_stage (out := fun a b => [a, b, .int 2, .bool true]) (ar := fun a b => [vl vs, tl ts, a, b]) (cmp := fun v => flt .f32 v x) (ok := fun e => okJ vs.length ts e.1 e.2) (A := fun e => vl (joiM vs ts e).1) (B := fun e => tl (joiM vs ts e).2.1) (fun _ => p_flss) l2 s2).trans ?_
  unfold shortE
  cases bstE (edgL ts vs.length) (bstL vs ts false) (fun v => flt .f32 v x) (fun e => okJ vs.length ts e.1 e.2) with
  | some e => rfl
  | none =>
   refine (mend_stage0 (out := fun a b => [a, b, .int 3, .bool true]) (ar := fun a b => [vl vs, tl ts, a, b]) (cmp := fun v => fgt .f32 v 0) (ok := fun e => flipB ts e.1 e.2) (A := fun e => vl (fliM vs ts e).1) (B := fun e => tl (fliM vs ts e).2.1) (fun _ => p_fgtr) l3 s3).trans ?_
   unfold flipE
   cases bstE (edgL ts vs.length) (bstF vs ts) (fun v => fgt .f32 v 0) (fun e => flipB ts e.1 e.2) with
   | some e => rfl
   | none => simp only [ev0, hcp]
attribute [local irreducible] szM szP marksV marksT totL mendR tif tjoin

theorem loop504 {G : Told} (g500 : G 500 = F500) {x y : Nat} {n : Int} (hn : n ≤ 64) (hx : finP x = true) (hy : finP y = true) : ∀ (r : Nat) (vs : List V3) (ts : List (List Int)) (acts : List Int) (i : Nat), (i : Int) + r = n → acts.length + r ≤ 64 → goodM vs ts = true →
  ∃ tl2 : List D, tl2.length = 2 ∧ iter (tbody 4 (S504L0 G (.flt x) (.flt y) (.int n))) (r + 1) [vl vs, tl ts, il acts, .int (i : Int)] = some (0, vl (mendR x y r vs ts acts).1 :: tl (mendR x y r vs ts acts).2.1 :: il (mendR x y r vs ts acts).2.2 :: tl2)
 | 0, vs, ts, acts, i, hi, hl, hg => by
  have h0 : decide ((i : Int) < n) = false := by simp; omega
  have e : mendR x y 0 vs ts acts = (vs, ts, acts) := by rw [mendR]
  rw [e]
  exact ⟨[.int (i : Int), .bool false], rfl, iter_end (l := 0) (ds' := vl vs :: tl ts :: il acts :: [.int (i : Int), .bool false]) (tb rfl (by
   unfold S504L0
   simp only [ev0, h0])) rfl⟩
 | r + 1, vs, ts, acts, i, hi, hl, hg => by
  have h0 : decide ((i : Int) < n) = true := by simp; omega
  have c0 : gcall G none 500 [vl vs, tl ts, .flt x, .flt y] 4 = some [vl (mendM vs ts x y).1, tl (mendM vs ts x y).2.1, .int (mendM vs ts x y).2.2, .bool true] := gcall_on g500 rfl (by rw [F500_m (szM_good (good_ok hg).1), show okM vs ts x y = true by unfold okM; rw [hg, hx, hy]; rfl, if_pos rfl]) rfl
  have hw : IntKind.wrap .i64 ((i : Int) + 1) = ((i + 1 : Nat) : Int) := by rw [wrap_id (by omega) (by omega)]; simp
  have hap : ∀ v : Int, gev none .app [il acts, il [v]] = some (il (acts ++ [v])) := fun v => app_il1 (by omega)
  by_cases ha : (mendM vs ts x y).2.2 = 0
  ·have hb : ((mendM vs ts x y).2.2 == 0) = true := by simpa using ha
   have e : mendR x y (r + 1) vs ts acts = (vs, ts, acts) := by rw [mendR, if_pos ha]
   rw [e]
   exact ⟨[.int (i : Int), .bool true], rfl, iter_end (l := 0) (ds' := vl vs :: tl ts :: il acts :: [.int (i : Int), .bool true]) (tb rfl (by
    unfold S504L0
    simp only [ev0, h0, c0, hb])) rfl⟩
  ·have hb : ((mendM vs ts x y).2.2 == 0) = false := by simpa using ha
   have e : mendR x y (r + 1) vs ts acts = mendR x y r (mendM vs ts x y).1 (mendM vs ts x y).2.1 (acts ++ [(mendM vs ts x y).2.2]) := by rw [mendR, if_neg ha]
   rw [e];obtain ⟨tl2, h2, hit⟩ := loop504 g500 hn hx hy r _ _ (acts ++ [(mendM vs ts x y).2.2]) (i + 1) (by omega) (by simp; omega) (mend_good (x := x) (y := y) hg)
   refine ⟨tl2, h2, iter_go (tb rfl ?_) hit⟩;unfold S504L0;simp only [ev0, h0, c0, hb, p_il1, hap, p_add, hw]
theorem loop504s {G : Told} (g501 : G 501 = F501) {x y : Nat} {n : Int} (hn : n ≤ 64) : ∀ (r : Nat) (vs : List V3) (ts : List (List Int)) (acts : List Int) (i : Nat), (i : Int) + r = n → acts.length + r ≤ 64 → goodM vs ts = true →
  ∃ tl2 : List D, tl2.length = 3 ∧ iter (tbody 4 (S504sL0 G (.flt x) (.flt y) (.int n))) (r + 1) [vl vs, tl ts, il acts, .int (i : Int)] = some (0, vl (mendR x y r vs ts acts).1 :: tl (mendR x y r vs ts acts).2.1 :: il (mendR x y r vs ts acts).2.2 :: tl2)
 | 0, vs, ts, acts, i, hi, hl, hg => by
  have h0 : decide ((i : Int) < n) = false := by simp; omega
  have e : mendR x y 0 vs ts acts = (vs, ts, acts) := by rw [mendR]
  rw [e]
  exact ⟨[.int (i : Int), .int (i : Int), .bool false], rfl, iter_end (l := 0) (ds' := vl vs :: tl ts :: il acts :: [.int (i : Int), .int (i : Int), .bool false]) (tb rfl (by
   unfold S504sL0
   simp only [ev0, h0])) rfl⟩
 | r + 1, vs, ts, acts, i, hi, hl, hg => by
  have h0 : decide ((i : Int) < n) = true := by simp; omega
  have c0 : gcall G none 501 [vl vs, tl ts, .flt x, .flt y] 3 = some [vl (mendM vs ts x y).1, tl (mendM vs ts x y).2.1, .int (mendM vs ts x y).2.2] := gcall_on g501 rfl (F501_m hg) rfl;have hw : IntKind.wrap .i64 ((i : Int) + 1) = ((i + 1 : Nat) : Int) := by rw [wrap_id (by omega) (by omega)]; simp
  have hap : ∀ v : Int, gev none .app [il acts, il [v]] = some (il (acts ++ [v])) := fun v => app_il1 (by omega)
  by_cases ha : (mendM vs ts x y).2.2 = 0
  ·have hb : ((mendM vs ts x y).2.2 == 0) = true := by simpa using ha
   have e : mendR x y (r + 1) vs ts acts = (vs, ts, acts) := by rw [mendR, if_pos ha]
   rw [e]
   exact ⟨[.int (i : Int), .int (i : Int), .bool true], rfl, iter_end (l := 0) (ds' := vl vs :: tl ts :: il acts :: [.int (i : Int), .int (i : Int), .bool true]) (tb rfl (by
    unfold S504sL0
    simp only [ev0, h0, c0, hb])) rfl⟩
  ·have hb : ((mendM vs ts x y).2.2 == 0) = false := by simpa using ha
   have e : mendR x y (r + 1) vs ts acts = mendR x y r (mendM vs ts x y).1 (mendM vs ts x y).2.1 (acts ++ [(mendM vs ts x y).2.2]) := by rw [mendR, if_neg ha]
   rw [e];obtain ⟨tl2, h2, hit⟩ := loop504s g501 hn r _ _ (acts ++ [(mendM vs ts x y).2.2]) (i + 1) (by omega) (by simp; omega) (mend_good (x := x) (y := y) hg)
   refine ⟨tl2, h2, iter_go (tb rfl ?_) hit⟩;unfold S504sL0;simp only [ev0, h0, c0, hb, p_il1, hap, p_add, hw]
theorem run504s {G : Told} (g502 : G 502 = F502) (g19 : G 19 = F19) (g151 : G 151 = F151) (g501 : G 501 = F501) : Runs G F504 T504s := by
 intro ds rs h
 unfold F504 at h
 split at h
 case h_2 => cases h
 rename_i a b x y n
 obtain ⟨vs, ha, h⟩ := Option.bind_eq_some_iff.1 h
 obtain ⟨ts, hb, h⟩ := Option.bind_eq_some_iff.1 h
 rw [dV_inv ha, dT_inv hb]
 split at h
 case isFalse => cases h
 rename_i hc
 simp only [Option.some.injEq] at h
 subst h
 clear ha
 clear hb
 refine ⟨n.toNat + 1, ?_⟩
 rw [eq504s]
 unfold S504s
 have c1 : gcall G none 502 [vl vs, tl ts, .flt x, .flt y] 1 = some [.bool (okM vs ts x y)] := gcall_on g502 rfl (F502_m hc) rfl
 have c2 : gcall G none 19 [.int n, .int 0, .int 64] 1 = some [.bool (inr 65 n)] := gcall_on g19 rfl (in19 n) rfl
 have hcp : gcall G none 151 [vl vs, tl ts] 2 = some [vl vs, tl ts] := gcall_on g151 rfl (F145_m hc) rfl
 cases hk : okM vs ts x y with
 | false =>
  rw [hk] at c1;rw [Bool.false_and, if_neg (by simp), ← vlnil, ← tlnil, ← ilnil]
  simp only [ev0, p_lst, List.replicate, c1]
 | true =>
 rw [hk] at c1
 rw [Bool.true_and]
 have hg : goodM vs ts = true := by unfold okM at hk;rw [Bool.and_eq_true] at hk;exact hk.1
 cases hin : inr 65 n with
 | false =>
  rw [hin] at c2;rw [if_neg (by simp), ← vlnil, ← tlnil, ← ilnil]
  simp only [ev0, p_lst, c1, c2]
 | true =>
 rw [hin] at c2
 rw [if_pos rfl]
 have hn : 0 ≤ n ∧ n ≤ 64 := by unfold inr at hin; simp only [Bool.and_eq_true, decide_eq_true_eq] at hin; omega
 obtain ⟨tl2, h2, hit⟩ := loop504s g501 (x := x) (y := y) (n := n) hn.2 n.toNat vs ts [] 0 (by omega) (by simp; omega) hg
 match tl2, h2 with
 | [_, _, _], _ =>
  have hit : iter (tbody 4 (S504sL0 G (.flt x) (.flt y) (.int n))) (n.toNat + 1) [vl vs, tl ts, il [], .int 0] = _ := hit;simp only [ev0, c1, c2, hcp, p_il0, hit, j_0, List.length_cons, List.length_nil, Nat.zero_add, Nat.reduceAdd, if_true]
theorem run504 {G : Told} (g403 : G 403 = F403) (g1 : G 1 = F1) (g19 : G 19 = F19) (g151 : G 151 = F151) (g500 : G 500 = F500) : Runs G F504 T504 := by
 intro ds rs h
 unfold F504 at h
 split at h
 case h_2 => cases h
 rename_i a b x y n
 obtain ⟨vs, ha, h⟩ := Option.bind_eq_some_iff.1 h
 obtain ⟨ts, hb, h⟩ := Option.bind_eq_some_iff.1 h
 rw [dV_inv ha, dT_inv hb]
 split at h
 case isFalse => cases h
 rename_i hc
 simp only [Option.some.injEq] at h
 subst h
 clear ha
 clear hb
 refine ⟨n.toNat + 1, ?_⟩
 rw [eq504]
 unfold S504
 have c1 : gcall G none 403 [vl vs, tl ts] 1 = some [.bool (goodM vs ts)] := gcall_on g403 rfl (by rw [F403_m hc]; unfold goodM; rfl) rfl
 have c2 : gcall G none 1 [.flt x] 1 = some [.bool (finP x)] := gcall_on g1 rfl rfl rfl
 have c3 : gcall G none 1 [.flt y] 1 = some [.bool (finP y)] := gcall_on g1 rfl rfl rfl
 have c4 : gcall G none 19 [.int n, .int 0, .int 64] 1 = some [.bool (inr 65 n)] := gcall_on g19 rfl (in19 n) rfl
 have e : okM vs ts x y = (goodM vs ts && (finP x && finP y)) := by unfold okM; rfl
 rw [e]
 have hcp : gcall G none 151 [vl vs, tl ts] 2 = some [vl vs, tl ts] := gcall_on g151 rfl (F145_m hc) rfl
 cases hg : goodM vs ts with
 | false =>
  rw [hg] at c1;rw [Bool.false_and, Bool.false_and, if_neg (by simp), ← vlnil, ← tlnil, ← ilnil]
  simp only [ev0, p_lst, List.replicate, c1]
 | true =>
 rw [hg] at c1
 rw [Bool.true_and]
 cases hx : finP x with
 | false =>
  rw [hx] at c2;rw [Bool.false_and, Bool.false_and, if_neg (by simp), ← vlnil, ← tlnil, ← ilnil]
  simp only [ev0, p_lst, List.replicate, c1, c2]
 | true =>
 rw [hx] at c2
 rw [Bool.true_and]
 cases hy : finP y with
 | false =>
  rw [hy] at c3;rw [Bool.false_and, if_neg (by simp), ← vlnil, ← tlnil, ← ilnil]
  simp only [ev0, p_lst, List.replicate, c1, c2, c3]
 | true =>
 rw [hy] at c3
 rw [Bool.true_and]
 cases hin : inr 65 n with
 | false =>
  rw [hin] at c4;rw [if_neg (by simp), ← vlnil, ← tlnil, ← ilnil]
  simp only [ev0, p_lst, c1, c2, c3, c4]
 | true =>
 rw [hin] at c4
 rw [if_pos rfl]
 have hn : 0 ≤ n ∧ n ≤ 64 := by unfold inr at hin; simp only [Bool.and_eq_true, decide_eq_true_eq] at hin; omega
 obtain ⟨tl2, h2, hit⟩ := loop504 g500 (x := x) (y := y) (n := n) hn.2 hx hy n.toNat vs ts [] 0 (by omega) (by simp; omega) hg
 match tl2, h2 with
 | [_, _], _ =>
  have hit : iter (tbody 4 (S504L0 G (.flt x) (.flt y) (.int n))) (n.toNat + 1) [vl vs, tl ts, il [], .int 0] = _ := hit;simp only [ev0, c1, c2, c3, c4, hcp, p_il0, hit, j_0, List.length_cons, List.length_nil, Nat.zero_add, Nat.reduceAdd, if_true]
theorem run505 {G : Told} (g142 : G 142 = F142) (g145 : G 145 = F145) (g146 : G 146 = F146) (g147 : G 147 = F147) (g148 : G 148 = F148) (g100 : G 100 = F100) (g102 : G 102 = F102) (g104 : G 104 = F104) (g504 : G 504 = F504) : Runs G F505 T505 := by
 intro ds rs h
 unfold F505 at h
 split at h
 case h_2 => cases h
 rename_i a b x y n
 obtain ⟨vs, ha, h⟩ := Option.bind_eq_some_iff.1 h
 obtain ⟨ts, hb, h⟩ := Option.bind_eq_some_iff.1 h
 rw [dV_inv ha, dT_inv hb]
 split at h
 case isFalse => cases h
 rename_i hc
 simp only [Option.some.injEq] at h
 subst h
 clear ha
 clear hb
 refine ⟨0, ?_⟩
 rw [eq505]
 unfold S505
 have z1 : gcall G none 142 [vl vs, tl ts, .int 1048576] 1 = _ := gcall_on g142 rfl (F142_m hc) rfl
 by_cases hsz : szM vs ts ≤ 1048576
 case neg =>
  rw [szP_neg hsz] at z1;simp only [z1, Option.bind_some, List.getD_cons_zero, p_lss, show decide ((-1 : Int) < 0) = true by decide, t_t]
 rw [szP_pos hsz] at z1
 have d1 : decide ((1048576 : Int) - (szM vs ts : Nat) < 0) = false := by simp; omega
 have hz : szM vs ts = vs.length + ts.length + totL ts := by unfold szM; rfl
 have t1 : gcall G none 145 [vl vs, tl ts] 2 = _ := gcall_on g145 rfl (F145_m hsz) rfl
 have q1 : gcall G none 146 [vl vs, tl ts, vl vs, tl ts] 1 = _ := gcall_on g146 rfl (F146_m hsz) rfl
 have m1 : gcall G none 147 [vl vs, tl ts, .int 1] 3 = _ := gcall_on g147 rfl (F147_m (m := 1) hsz (by omega) (by omega)) rfl
 have d3 : decide ((1 : Int) + 3 * vs.length + totL ts < 0) = false := by simp; omega
 have hr : ∃ us ss l b, gcall G none 504 [vl vs, tl ts, .flt x, .flt y, .int n] 4 = some [vl us, tl ss, il l, .bool b] ∧ szM us ss ≤ 1048576 ∧ l.length ≤ 64 ∧ 3 * us.length + totL ss ≤ 1000 := by
  cases hk : okM vs ts x y && inr 65 n with
  | true =>
   have hg : goodM vs ts = true := by unfold okM at hk;simp only [Bool.and_eq_true] at hk;exact hk.1.1
   have hin : 0 ≤ n ∧ n < 65 := by rw [Bool.and_eq_true] at hk;have := hk.2;unfold inr at this;simp only [Bool.and_eq_true, decide_eq_true_eq] at this;omega
   have hm := mendR_good (x := x) (y := y) (r := n.toNat) (acts := []) hg
   exact ⟨_, _, _, _, gcall_on g504 rfl (by rw [F504_m hsz, hk, if_pos rfl]) rfl, szM_good (good_ok hm.1).1, by have := hm.2; simp at this; omega, by
    obtain ⟨k1, k2⟩ := valid_len (good_ok hm.1).1;rw [totL_all (tri3 (good_ok hm.1).1)]
    omega⟩
  | false => exact ⟨_, _, _, _, gcall_on g504 rfl (by rw [F504_m hsz, hk, if_neg (by simp)]) rfl, by unfold szM totL; simp, by simp, by unfold totL; simp⟩
 obtain ⟨us, ss, l, b, hr, hu, hl, hb⟩ := hr
 have hzu : szM us ss = us.length + ss.length + totL ss := by unfold szM; rfl
 have q3 : gcall G none 146 [vl us, tl ss, vl us, tl ss] 1 = _ := gcall_on g146 rfl (F146_m hu) rfl
 have m3 : gcall G none 147 [vl us, tl ss, .int 1] 3 = _ := gcall_on g147 rfl (F147_m (m := 1) hu (by omega) (by omega)) rfl
 have n3 : gcall G none 148 [vl (marksV 1 us.length), marksT (1 + 3 * us.length) ss, .int 1] 1 = _ := gcall_on g148 rfl (F148_m (m := 1) hu (by omega) (by omega)) rfl
 have d4 : decide ((1 : Int) + 3 * us.length + totL ss < 0) = false := by simp; omega
 have q5 : gcall G none 100 [il l, il l] 1 = _ := gcall_on g100 rfl (F100_il (by omega)) rfl
 have m5 : gcall G none 102 [il l, .int ((1 : Int) + 3 * us.length + totL ss)] 2 = _ := gcall_on g102 rfl (F102_il (by omega) (by omega) (by omega)) rfl
 have n5 : gcall G none 104 [.lst (mk ((1 : Int) + 3 * us.length + totL ss) l.length), .int ((1 : Int) + 3 * us.length + totL ss)] 1 = _ := gcall_on g104 rfl (F104_mk (by omega) (by omega) (by omega)) rfl
 have d6 : decide ((1 : Int) + 3 * us.length + totL ss + l.length < 0) = false := by simp; omega
 simp only [ev0, z1, d1, t1, q1, m1, d3, q3, m3, n3, d4, hr, q5, m5, n5, d6, p_bne, bne_self_eq_false]
end Vs
