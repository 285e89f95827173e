/-
  Pairs of places, flips of edges, what is gained.
-/
import Derived.Test.YtaakjnkllodchaaGreatK27
set_option maxHeartbeats 4000000
namespace Vs
open Go Go.Sort
def pairP (n : Nat) (ts : List (List Int)) (p q : Int) : Bool := validP n ts && sheetP ts && inr n p && inr n q && (p != q)
def okP (n : Nat) (ts : List (List Int)) (p q : Int) : Bool := validP n ts && (inr n p && inr n q && (p != q))
def oneI (ts : List (List Int)) (p q : Int) : Int := if goesA ts p q ((atL ts p q).getD 0 0) = true then (atL ts p q).getD 0 0 else (atL ts p q).getD 1 0
def twoI (ts : List (List Int)) (p q : Int) : Int := if goesA ts p q ((atL ts p q).getD 0 0) = true then (atL ts p q).getD 1 0 else (atL ts p q).getD 0 0
def flC (ts : List (List Int)) (p q : Int) : Int := thirdP (ts.getD (oneI ts p q).toNat []) p q
def flD (ts : List (List Int)) (p q : Int) : Int := thirdP (ts.getD (twoI ts p q).toNat []) p q
def flipQ (ts : List (List Int)) (p q : Int) : Bool := (flC ts p q != flD ts p q) && decide ((atL ts (flC ts p q) (flD ts p q)).length = 0)
def flipB (ts : List (List Int)) (p q : Int) : Bool := decide ((atL ts p q).length = 2) && flipQ ts p q
def atV (vs : List V3) (p : Int) : V3 := vs.getD p.toNat ⟨0, 0, 0⟩
def lenP (vs : List V3) (p q : Int) : Nat := longP (fsub .f32 (atV vs p).x (atV vs q).x) (fsub .f32 (atV vs p).y (atV vs q).y) (fsub .f32 (atV vs p).z (atV vs q).z)
def gnP (vs : List V3) (ts : List (List Int)) (p q : Int) : Nat := fsub .f32 (lenP vs p q) (lenP vs (flC ts p q) (flD ts p q))
noncomputable def F409 : List D → Option (List D)
 | [a, b, .int p] => (dV a).bind fun vs => (dT b).bind fun ts => if szM vs ts ≤ 1048576 then some [.bool (validP vs.length ts && inr vs.length p)] else none
 | _ => none
theorem F409_m {vs : List V3} {ts : List (List Int)} {p : Int} (h : szM vs ts ≤ 1048576) : F409 [vl vs, tl ts, .int p] = some [.bool (validP vs.length ts && inr vs.length p)] := by
 simp only [F409, dV_vl, dT_tl, Option.bind_some]
 rw [if_pos h]
noncomputable def F410 : List D → Option (List D)
 | [a, b, .int p, .int q] => (dV a).bind fun vs => (dT b).bind fun ts => if szM vs ts ≤ 1048576 then some [.bool (pairP vs.length ts p q)] else none
 | _ => none
theorem F410_m {vs : List V3} {ts : List (List Int)} {p q : Int} (h : szM vs ts ≤ 1048576) : F410 [vl vs, tl ts, .int p, .int q] = some [.bool (pairP vs.length ts p q)] := by
 simp only [F410, dV_vl, dT_tl, Option.bind_some]
 rw [if_pos h]
noncomputable def F406 : List D → Option (List D)
 | [a, b, .int p, .int q] => (dV a).bind fun vs => (dT b).bind fun ts => if okP vs.length ts p q = true then some (if flipB ts p q = true then [.int (oneI ts p q), .int (twoI ts p q), .int (flC ts p q), .int (flD ts p q), .bool true] else [.int 0, .int 0, .int 0, .int 0, .bool false]) else none
 | _ => none
theorem F406_m {vs : List V3} {ts : List (List Int)} {p q : Int} (h : okP vs.length ts p q = true) : F406 [vl vs, tl ts, .int p, .int q] = some (if flipB ts p q = true then [.int (oneI ts p q), .int (twoI ts p q), .int (flC ts p q), .int (flD ts p q), .bool true] else [.int 0, .int 0, .int 0, .int 0, .bool false]) := by
 simp only [F406, dV_vl, dT_tl, Option.bind_some]
 rw [if_pos h]
noncomputable def F417 : List D → Option (List D)
 | [a, b, .int p, .int q] => (dV a).bind fun vs => (dT b).bind fun ts => if okP vs.length ts p q = true then some (if flipB ts p q = true then [.flt (gnP vs ts p q), .bool true] else [.flt 0, .bool false]) else none
 | _ => none
theorem F417_m {vs : List V3} {ts : List (List Int)} {p q : Int} (h : okP vs.length ts p q = true) : F417 [vl vs, tl ts, .int p, .int q] = some (if flipB ts p q = true then [.flt (gnP vs ts p q), .bool true] else [.flt 0, .bool false]) := by
 simp only [F417, dV_vl, dT_tl, Option.bind_some]
 rw [if_pos h]
noncomputable def F419 : List D → Option (List D)
 | [a, b, .int p, .int q] => (dV a).bind fun vs => (dT b).bind fun ts => if szM vs ts ≤ 1048576 then some [.bool (pairP vs.length ts p q && flipB ts p q)] else none
 | _ => none
theorem F419_m {vs : List V3} {ts : List (List Int)} {p q : Int} (h : szM vs ts ≤ 1048576) : F419 [vl vs, tl ts, .int p, .int q] = some [.bool (pairP vs.length ts p q && flipB ts p q)] := by
 simp only [F419, dV_vl, dT_tl, Option.bind_some]
 rw [if_pos h]
def flipT (ts : List (List Int)) (p q : Int) : List (List Int) := (ts.set (oneI ts p q).toNat [p, flD ts p q, flC ts p q]).set (twoI ts p q).toNat [flD ts p q, q, flC ts p q]
noncomputable def F421 : List D → Option (List D)
 | [a, b, .int p, .int q] => (dV a).bind fun vs => (dT b).bind fun ts => if szM vs ts ≤ 1048576 then some (if (pairP vs.length ts p q && flipB ts p q) = true then [vl vs, tl (flipT ts p q), .bool true] else [vl [], tl [], .bool false]) else none
 | _ => none
theorem F421_m {vs : List V3} {ts : List (List Int)} {p q : Int} (h : szM vs ts ≤ 1048576) : F421 [vl vs, tl ts, .int p, .int q] = some (if (pairP vs.length ts p q && flipB ts p q) = true then [vl vs, tl (flipT ts p q), .bool true] else [vl [], tl [], .bool false]) := by
 simp only [F421, dV_vl, dT_tl, Option.bind_some]
 rw [if_pos h]
def T409 : T :=
(cc 150 [0, 1] 1 <|
oT 3 .id [2] <|
oT 3 .id [0] <|
oT 3 .len [5] <|
oT 3 (.iar .sub .i64) [6, kI 1] <|
cT 3 19 [4, kI 0, 7] 1 <|
oo .pick [3, 8, kN] <|
.out 0 [9])
def S409 (G : Told) (_fuel : Nat) (x0 x1 x2 : D) : Option (Nat × List D) :=
 (gcall G none 150 [x0, x1] 1).bind fun e3 =>
 (gev (some ((e3.getD 0 .undef), true)) .id [x2]).bind fun x4 =>
 (gev (some ((e3.getD 0 .undef), true)) .id [x0]).bind fun x5 =>
 (gev (some ((e3.getD 0 .undef), true)) .len [x5]).bind fun x6 =>
 (gev (some ((e3.getD 0 .undef), true)) (.iar .sub .i64) [x6, .int 1]).bind fun x7 =>
 (gcall G (some ((e3.getD 0 .undef), true)) 19 [x4, .int 0, x7] 1).bind fun e8 =>
 (gev none .pick [e3.getD 0 .undef, e8.getD 0 .undef, .bool false]).bind fun x9 =>
 some (0, [x9])
theorem eq409 {G fuel} (x0 x1 x2) : run G fuel T409 [x0, x1, x2] = S409 G fuel x0 x1 x2 := by rw [run_eq]; kernel_rfl
def T410 : T :=
(cc 403 [0, 1] 1 <|
oT 4 .id [2] <|
cT 4 409 [0, 1, 5] 1 <|
oo .pick [4, 6, kN] <|
oT 7 .id [3] <|
cT 7 409 [0, 1, 8] 1 <|
oo .pick [7, 9, kN] <|
oT 10 .id [2] <|
oT 10 .id [3] <|
oT 10 (.icm .neq) [11, 12] <|
oo .pick [10, 13, kN] <|
.out 0 [14])
def S410 (G : Told) (_fuel : Nat) (x0 x1 x2 x3 : D) : Option (Nat × List D) :=
 (gcall G none 403 [x0, x1] 1).bind fun e4 =>
 (gev (some ((e4.getD 0 .undef), true)) .id [x2]).bind fun x5 =>
 (gcall G (some ((e4.getD 0 .undef), true)) 409 [x0, x1, x5] 1).bind fun e6 =>
 (gev none .pick [e4.getD 0 .undef, e6.getD 0 .undef, .bool false]).bind fun x7 =>
 (gev (some (x7, true)) .id [x3]).bind fun x8 =>
 (gcall G (some (x7, true)) 409 [x0, x1, x8] 1).bind fun e9 =>
 (gev none .pick [x7, e9.getD 0 .undef, .bool false]).bind fun x10 =>
 (gev (some (x10, true)) .id [x2]).bind fun x11 =>
 (gev (some (x10, true)) .id [x3]).bind fun x12 =>
 (gev (some (x10, true)) (.icm .neq) [x11, x12]).bind fun x13 =>
 (gev none .pick [x10, x13, .bool false]).bind fun x14 =>
 some (0, [x14])
theorem eq410 {G fuel} (x0 x1 x2 x3) : run G fuel T410 [x0, x1, x2, x3] = S410 G fuel x0 x1 x2 x3 := by rw [run_eq]; kernel_rfl
def T406 : T :=
(cc 401 [0, 1] 2 <|
cc 400 [2, 3] 2 <|
oo .mkagg [6, 7] <|
oo .mget [(.v 4), (.v 8), kL] <|
oo .len [9] <|
oo (.icm .neq) [10, kI 2] <|
.ite 11
 (.out 0 [kI 0, kI 0, kI 0, kI 0, kN])
 (oo .idx [9, kI 0] <|
 oo .idx [9, kI 0] <|
 oo .idx [9, kI 1] <|
 oo .idx [9, kI 1] <|
 oo .idx [1, 13] <|
 cc 407 [16, 2, 3] 1 <|
 oo .bnot [17] <|
 .join 2
  (.ite 18
   (.out 0 [15, 13])
   (.out 0 [13, 15]))
 (oo .idx [1, 19] <|
 cc 408 [21, 6, 7] 1 <|
 oo .idx [1, 20] <|
 cc 408 [23, 6, 7] 1 <|
 oo (.icm .eql) [22, 24] <|
 oN 25 .id [22] <|
 oN 25 .id [24] <|
 cN 25 400 [26, 27] 2 <|
 oN 25 .mkagg [28, 29] <|
 oN 25 .mget [(.v 4), (.v 30), kL] <|
 oN 25 .len [31] <|
 oN 25 (.icm .gtr) [32, kI 0] <|
 oo .pick [25, kT, 33] <|
 .ite 34
  (.out 0 [kI 0, kI 0, kI 0, kI 0, kN])
  (.out 0 [19, 20, 22, 24, kT]))))
def S406 (G : Told) (_fuel : Nat) (x0 x1 x2 x3 : D) : Option (Nat × List D) :=
 (gcall G none 401 [x0, x1] 2).bind fun e4 =>
 (gcall G none 400 [x2, x3] 2).bind fun e6 =>
 (gev none .mkagg [e6.getD 0 .undef, e6.getD 1 .undef]).bind fun x8 =>
 (gev none .mget [(e4.getD 0 .undef), x8, (.lst [])]).bind fun x9 =>
 (gev none .len [x9]).bind fun x10 =>
 (gev none (.icm .neq) [x10, .int 2]).bind fun x11 =>
 tif x11 (
  some (0, [.int 0, .int 0, .int 0, .int 0, .bool false])) (
  (gev none .idx [x9, .int 0]).bind fun _x12 =>
  (gev none .idx [x9, .int 0]).bind fun x13 =>
  (gev none .idx [x9, .int 1]).bind fun _x14 =>
  (gev none .idx [x9, .int 1]).bind fun x15 =>
  (gev none .idx [x1, x13]).bind fun x16 =>
  (gcall G none 407 [x16, x2, x3] 1).bind fun e17 =>
  (gev none .bnot [e17.getD 0 .undef]).bind fun x18 =>
  tjoin 2 (
   tif x18 (
    some (0, [x15, x13])) (
    some (0, [x13, x15]))) fun e19 =>
  (gev none .idx [x1, e19.getD 0 .undef]).bind fun x21 =>
  (gcall G none 408 [x21, e6.getD 0 .undef, e6.getD 1 .undef] 1).bind fun e22 =>
  (gev none .idx [x1, e19.getD 1 .undef]).bind fun x23 =>
  (gcall G none 408 [x23, e6.getD 0 .undef, e6.getD 1 .undef] 1).bind fun e24 =>
  (gev none (.icm .eql) [e22.getD 0 .undef, e24.getD 0 .undef]).bind fun x25 =>
  (gev (some (x25, false)) .id [e22.getD 0 .undef]).bind fun x26 =>
  (gev (some (x25, false)) .id [e24.getD 0 .undef]).bind fun x27 =>
  (gcall G (some (x25, false)) 400 [x26, x27] 2).bind fun e28 =>
  (gev (some (x25, false)) .mkagg [e28.getD 0 .undef, e28.getD 1 .undef]).bind fun x30 =>
  (gev (some (x25, false)) .mget [(e4.getD 0 .undef), x30, (.lst [])]).bind fun x31 =>
  (gev (some (x25, false)) .len [x31]).bind fun x32 =>
  (gev (some (x25, false)) (.icm .gtr) [x32, .int 0]).bind fun x33 =>
  (gev none .pick [x25, .bool true, x33]).bind fun x34 =>
  tif x34 (
   some (0, [.int 0, .int 0, .int 0, .int 0, .bool false])) (
   some (0, [e19.getD 0 .undef, e19.getD 1 .undef, e22.getD 0 .undef, e24.getD 0 .undef, .bool true])))
theorem eq406 {G fuel} (x0 x1 x2 x3) : run G fuel T406 [x0, x1, x2, x3] = S406 G fuel x0 x1 x2 x3 := by rw [run_eq]; kernel_rfl
def T417 : T :=
(cc 406 [0, 1, 2, 3] 5 <|
oo .bnot [8] <|
.ite 9
 (.out 0 [kF 0, kN])
 (oo .idx [0, 2] <|
 oo (.proj 0) [10] <|
 oo (.proj 1) [10] <|
 oo (.proj 2) [10] <|
 oo .idx [0, 3] <|
 oo (.proj 0) [14] <|
 oo (.proj 1) [14] <|
 oo (.proj 2) [14] <|
 cc 13 [11, 12, 13, 15, 16, 17] 3 <|
 cc 15 [18, 19, 20] 1 <|
 oo .idx [0, 6] <|
 oo (.proj 0) [22] <|
 oo (.proj 1) [22] <|
 oo (.proj 2) [22] <|
 oo .idx [0, 7] <|
 oo (.proj 0) [26] <|
 oo (.proj 1) [26] <|
 oo (.proj 2) [26] <|
 cc 13 [23, 24, 25, 27, 28, 29] 3 <|
 cc 15 [30, 31, 32] 1 <|
 oo (.far .sub .f32) [21, 33] <|
 .out 0 [34, kT]))
def S417 (G : Told) (_fuel : Nat) (x0 x1 x2 x3 : D) : Option (Nat × List D) :=
 (gcall G none 406 [x0, x1, x2, x3] 5).bind fun e4 =>
 (gev none .bnot [e4.getD 4 .undef]).bind fun x9 =>
 tif x9 (
  some (0, [.flt 0, .bool false])) (
  (gev none .idx [x0, x2]).bind fun x10 =>
  (gev none (.proj 0) [x10]).bind fun x11 =>
  (gev none (.proj 1) [x10]).bind fun x12 =>
  (gev none (.proj 2) [x10]).bind fun x13 =>
  (gev none .idx [x0, x3]).bind fun x14 =>
  (gev none (.proj 0) [x14]).bind fun x15 =>
  (gev none (.proj 1) [x14]).bind fun x16 =>
  (gev none (.proj 2) [x14]).bind fun x17 =>
  (gcall G none 13 [x11, x12, x13, x15, x16, x17] 3).bind fun e18 =>
  (gcall G none 15 [e18.getD 0 .undef, e18.getD 1 .undef, e18.getD 2 .undef] 1).bind fun e21 =>
  (gev none .idx [x0, e4.getD 2 .undef]).bind fun x22 =>
  (gev none (.proj 0) [x22]).bind fun x23 =>
  (gev none (.proj 1) [x22]).bind fun x24 =>
  (gev none (.proj 2) [x22]).bind fun x25 =>
  (gev none .idx [x0, e4.getD 3 .undef]).bind fun x26 =>
  (gev none (.proj 0) [x26]).bind fun x27 =>
  (gev none (.proj 1) [x26]).bind fun x28 =>
  (gev none (.proj 2) [x26]).bind fun x29 =>
  (gcall G none 13 [x23, x24, x25, x27, x28, x29] 3).bind fun e30 =>
  (gcall G none 15 [e30.getD 0 .undef, e30.getD 1 .undef, e30.getD 2 .undef] 1).bind fun e33 =>
  (gev none (.far .sub .f32) [e21.getD 0 .undef, e33.getD 0 .undef]).bind fun x34 =>
  some (0, [x34, .bool true]))
theorem eq417 {G fuel} (x0 x1 x2 x3) : run G fuel T417 [x0, x1, x2, x3] = S417 G fuel x0 x1 x2 x3 := by rw [run_eq]; kernel_rfl
def T419 : T :=
(cc 410 [0, 1, 2, 3] 1 <|
oo .bnot [4] <|
.ite 5
 (.out 0 [kN])
 (cc 406 [0, 1, 2, 3] 5 <|
 .out 0 [10]))
def S419 (G : Told) (_fuel : Nat) (x0 x1 x2 x3 : D) : Option (Nat × List D) :=
 (gcall G none 410 [x0, x1, x2, x3] 1).bind fun e4 =>
 (gev none .bnot [e4.getD 0 .undef]).bind fun x5 =>
 tif x5 (
  some (0, [.bool false])) (
  (gcall G none 406 [x0, x1, x2, x3] 5).bind fun e6 =>
  some (0, [e6.getD 4 .undef]))
theorem eq419 {G fuel} (x0 x1 x2 x3) : run G fuel T419 [x0, x1, x2, x3] = S419 G fuel x0 x1 x2 x3 := by rw [run_eq]; kernel_rfl
def T421 : T :=
(cc 419 [0, 1, 2, 3] 1 <|
oo .bnot [4] <|
.ite 5
 (.out 0 [kL, kL, kN])
 (cc 406 [0, 1, 2, 3] 5 <|
 cc 151 [0, 1] 2 <|
 oo .mklst [2, 9, 8] <|
 oo .idx [12, 6] <|
 oo .set [12, 6, 13] <|
 oo .mklst [9, 3, 8] <|
 oo .idx [15, 7] <|
 oo .set [15, 7, 16] <|
 .out 0 [11, 18, kT]))
def S421 (G : Told) (_fuel : Nat) (x0 x1 x2 x3 : D) : Option (Nat × List D) :=
 (gcall G none 419 [x0, x1, x2, x3] 1).bind fun e4 =>
 (gev none .bnot [e4.getD 0 .undef]).bind fun x5 =>
 tif x5 (
  some (0, [(.lst []), (.lst []), (.bool false)])) (
  (gcall G none 406 [x0, x1, x2, x3] 5).bind fun e6 =>
  (gcall G none 151 [x0, x1] 2).bind fun e11 =>
  (gev none .mklst [x2, e6.getD 3 .undef, e6.getD 2 .undef]).bind fun x13 =>
  (gev none .idx [e11.getD 1 .undef, e6.getD 0 .undef]).bind fun _x14 =>
  (gev none .set [e11.getD 1 .undef, e6.getD 0 .undef, x13]).bind fun x15 =>
  (gev none .mklst [e6.getD 3 .undef, x3, e6.getD 2 .undef]).bind fun x16 =>
  (gev none .idx [x15, e6.getD 1 .undef]).bind fun _x17 =>
  (gev none .set [x15, e6.getD 1 .undef, x16]).bind fun x18 =>
  some (0, [e11.getD 0 .undef, x18, .bool true]))
theorem eq421 {G fuel} (x0 x1 x2 x3) : run G fuel T421 [x0, x1, x2, x3] = S421 G fuel x0 x1 x2 x3 := by rw [run_eq]; kernel_rfl
theorem vlnil : D.lst [] = vl [] := rfl
theorem tlnil : D.lst [] = tl [] := rfl
theorem bigI {n : Nat} (h : n ≤ 1048576) : IntKind.wrap .i64 ((n : Int) - 1) = (n : Int) - 1 := wrap_id (by omega) (by omega)
theorem inr_iff {n p : Int} : inr n p = true ↔ 0 ≤ p ∧ p < n := by
 unfold inr
 simp only [Bool.and_eq_true, decide_eq_true_eq]
 omega
theorem okP_ok {n : Nat} {ts : List (List Int)} {p q : Int} (h : okP n ts p q = true) : validP n ts = true ∧ (0 ≤ p ∧ p < n) ∧ (0 ≤ q ∧ q < n) ∧ p ≠ q := by
 unfold okP at h
 simp only [Bool.and_eq_true, inr_iff, bne_iff_ne, ne_eq] at h
 exact ⟨h.1, h.2.1.1, h.2.1.2, h.2.2⟩
theorem pair_ok {n : Nat} {ts : List (List Int)} {p q : Int} (h : pairP n ts p q = true) : okP n ts p q = true := by
 unfold pairP at h
 unfold okP
 simp only [Bool.and_eq_true] at h ⊢
 exact ⟨h.1.1.1.1, ⟨h.1.1.2, h.1.2⟩, h.2⟩
theorem has_comm (t : List Int) (p q : Int) : hasB t p q = hasB t q p := by unfold hasB; rw [Bool.and_comm]
theorem thirdB_of {x y z p q : Int} (h1 : x ≠ y) (h2 : y ≠ z) (h3 : x ≠ z) (h : p ≠ q) (hh : hasB [x, y, z] p q = true) (h4 : 0 ≤ x ∧ x < 64) (h5 : 0 ≤ y ∧ y < 64) (h6 : 0 ≤ z ∧ z < 64) : thirdB x y z p q = true := by
 unfold thirdB
 simp only [Bool.and_eq_true, decide_eq_true_eq]
 exact ⟨⟨⟨⟨⟨h1, h2⟩, h3⟩, h⟩, hh⟩, ⟨h4, h5⟩, h6⟩
theorem third_at {n : Nat} {ts : List (List Int)} (hv : validP n ts = true) {G : Told} (g408 : G 408 = F408) {p q j : Int} (hpq : p ≠ q) (h : j ∈ atL ts p q) :
  gcall G none 408 [il (ts.getD j.toNat []), .int p, .int q] 1 = some [.int (thirdP (ts.getD j.toNat []) p q)] ∧ gcall G none 408 [il (ts.getD j.toNat []), .int (min p q), .int (max p q)] 1 = some [.int (thirdP (ts.getD j.toNat []) p q)] ∧
   (0 ≤ thirdP (ts.getD j.toNat []) p q ∧ thirdP (ts.getD j.toNat []) p q < n) := by
 obtain ⟨hn, _⟩ := valid_len hv
 obtain ⟨x, y, z, ht, h1, h2, h3, h4, h5, h6, h7⟩ := atL_tri (triOk_of hv) h
 rw [ht]
 have hb := thirdB_of h1 h2 h3 hpq h7 ⟨h4.1, by omega⟩ ⟨h5.1, by omega⟩ ⟨h6.1, by omega⟩
 have hb2 : thirdB x y z (min p q) (max p q) = true := by
  refine thirdB_of h1 h2 h3 (by omega) ?_ ⟨h4.1, by omega⟩ ⟨h5.1, by omega⟩ ⟨h6.1, by omega⟩
  by_cases hle : p ≤ q
  ·rw [Int.min_eq_left hle, Int.max_eq_right hle]; exact h7
  ·rw [Int.min_eq_right (by omega), Int.max_eq_left (by omega), has_comm]; exact h7
 have e : thirdP [x, y, z] (min p q) (max p q) = thirdP [x, y, z] p q := by unfold thirdP; omega
 refine ⟨gcall_on g408 rfl (F408_m hb) rfl, ?_, ?_⟩
 ·rw [← e]; exact gcall_on g408 rfl (F408_m hb2) rfl
 ·have := thirdB_ok hb
  have e2 : thirdP [x, y, z] p q = x + y + z - p - q := rfl;rw [e2];omega
attribute [local irreducible] IntKind.wrap il tl vl bo mpD kD inr validP sheetP longP fsub

theorem run409 {G : Told} (g150 : G 150 = F150) (g19 : G 19 = F19) : Runs G F409 T409 := by
 intro ds rs h
 unfold F409 at h
 split at h
 case h_2 => cases h
 rename_i a b p
 obtain ⟨vs, ha, h⟩ := Option.bind_eq_some_iff.1 h
 obtain ⟨ts, hb, h⟩ := Option.bind_eq_some_iff.1 h
 rw [dV_inv ha, dT_inv hb]
 split at h
 case isFalse => cases h
 rename_i hc
 simp only [Option.some.injEq] at h
 subst h
 clear ha
 clear hb
 refine ⟨0, ?_⟩
 rw [eq409]
 unfold S409
 have hz : szM vs ts = vs.length + ts.length + totL ts := by unfold szM; rfl
 have hl := len_vl (l := vs)
 have hw := bigI (n := vs.length) (by omega)
 have c0 : gcall G none 150 [vl vs, tl ts] 1 = some [.bool (validP vs.length ts)] := gcall_on g150 rfl (F150_m hc) rfl
 have c : gcall G none 19 [.int p, .int 0, .int ((vs.length : Int) - 1)] 1 = some [.bool (inr vs.length p)] := gcall_on g19 rfl (F19_in _ _) rfl
 generalize validP vs.length ts = b1 at *
 generalize inr vs.length p = b2 at *
 cases b1 <;> simp only [ev0, p_sub, List.replicate, hl, hw, c, c0, Bool.true_and, Bool.false_and]
theorem run410 {G : Told} (g403 : G 403 = F403) (g409 : G 409 = F409) : Runs G F410 T410 := by
 intro ds rs h
 unfold F410 at h
 split at h
 case h_2 => cases h
 rename_i a b p q
 obtain ⟨vs, ha, h⟩ := Option.bind_eq_some_iff.1 h
 obtain ⟨ts, hb, h⟩ := Option.bind_eq_some_iff.1 h
 rw [dV_inv ha, dT_inv hb]
 split at h
 case isFalse => cases h
 rename_i hc
 simp only [Option.some.injEq] at h
 subst h
 clear ha
 clear hb
 refine ⟨0, ?_⟩
 rw [eq410]
 unfold S410
 have c0 : gcall G none 403 [vl vs, tl ts] 1 = some [.bool (validP vs.length ts && sheetP ts)] := gcall_on g403 rfl (F403_m hc) rfl
 have c1 : gcall G none 409 [vl vs, tl ts, .int p] 1 = some [.bool (validP vs.length ts && inr vs.length p)] := gcall_on g409 rfl (F409_m hc) rfl
 have c2 : gcall G none 409 [vl vs, tl ts, .int q] 1 = some [.bool (validP vs.length ts && inr vs.length q)] := gcall_on g409 rfl (F409_m hc) rfl
 have hn : gev none (.icm .neq) [.int p, .int q] = some (.bool (p != q)) := rfl
 unfold pairP
 generalize validP vs.length ts = b1 at *
 generalize sheetP ts = b2 at *
 generalize inr vs.length p = b3 at *
 generalize inr vs.length q = b4 at *
 generalize (p != q) = b5 at *
 cases b1 <;> cases b2 <;> cases b3 <;> cases b4 <;> cases b5 <;>
  repeat' first
   | ((with_reducible apply st_some); exact c0)
   | ((with_reducible apply st_some); exact c1)
   | ((with_reducible apply st_some); exact c2)
   | ((with_reducible apply st_some); exact hn)
   | ((with_reducible apply st_skip); exact rfl)
   | ((with_reducible apply st_t); exact rfl; exact rfl)
   | ((with_reducible apply st_f); exact rfl; exact rfl)
   | ((with_reducible apply st_some); exact rfl)
   | exact rfl
theorem two_facts {n : Nat} {ts : List (List Int)} (hv : validP n ts = true) {G : Told} (g407 : G 407 = F407) (g408 : G 408 = F408) {p q : Int} (hpq : p ≠ q) (h2 : (atL ts p q).length = 2) :
  ∃ u v g, atL ts p q = [u, v] ∧ goesA ts p q u = g ∧ oneI ts p q = (if g = true then u else v) ∧ twoI ts p q = (if g = true then v else u) ∧
   gev none .idx [tl ts, .int u] = some (il (ts.getD u.toNat [])) ∧ gev none .idx [tl ts, .int v] = some (il (ts.getD v.toNat [])) ∧ gcall G none 407 [il (ts.getD u.toNat []), .int p, .int q] 1 = some [.bool g] ∧
   gcall G none 408 [il (ts.getD (oneI ts p q).toNat []), .int p, .int q] 1 = some [.int (flC ts p q)] ∧ gcall G none 408 [il (ts.getD (twoI ts p q).toNat []), .int p, .int q] 1 = some [.int (flD ts p q)] ∧
   gcall G none 408 [il (ts.getD (oneI ts p q).toNat []), .int (min p q), .int (max p q)] 1 = some [.int (flC ts p q)] ∧ gcall G none 408 [il (ts.getD (twoI ts p q).toNat []), .int (min p q), .int (max p q)] 1 = some [.int (flD ts p q)] ∧
   (0 ≤ flC ts p q ∧ flC ts p q < n) ∧ (0 ≤ flD ts p q ∧ flD ts p q < n) ∧ (0 ≤ u ∧ u < (ts.length : Int)) ∧ (0 ≤ v ∧ v < (ts.length : Int)) := by
 obtain ⟨u, v, huv⟩ := len2 h2
 have hu : u ∈ atL ts p q := by rw [huv]; simp
 have hv' : v ∈ atL ts p q := by rw [huv]; simp
 have hT := triOk_of hv
 obtain ⟨a1, a2⟩ := goes_at hT g407 hu p q
 obtain ⟨b1, b2⟩ := goes_at hT g407 hv' p q
 have e1 : oneI ts p q = if goesA ts p q u = true then u else v := by unfold oneI; rw [huv]; rfl
 have e2 : twoI ts p q = if goesA ts p q u = true then v else u := by unfold twoI; rw [huv]; rfl
 have m1 : oneI ts p q ∈ atL ts p q := by rw [e1]; split <;> assumption
 have m2 : twoI ts p q ∈ atL ts p q := by rw [e2]; split <;> assumption
 obtain ⟨c1, c2, c3⟩ := third_at hv g408 hpq m1
 obtain ⟨d1, d2, d3⟩ := third_at hv g408 hpq m2
 exact ⟨u, v, _, huv, rfl, e1, e2, a1, b1, a2, c1, d1, c2, d2, c3, d3, atL_in hu, atL_in hv'⟩
theorem run406 {G : Told} (g401 : G 401 = F401) (g400 : G 400 = F400) (g407 : G 407 = F407) (g408 : G 408 = F408) : Runs G F406 T406 := by
 intro ds rs h
 unfold F406 at h
 split at h
 case h_2 => cases h
 rename_i a b p q
 obtain ⟨vs, ha, h⟩ := Option.bind_eq_some_iff.1 h
 obtain ⟨ts, hb, h⟩ := Option.bind_eq_some_iff.1 h
 rw [dV_inv ha, dT_inv hb]
 split at h
 case isFalse => cases h
 rename_i hc
 simp only [Option.some.injEq] at h
 subst h
 clear ha
 clear hb
 obtain ⟨hv, hp, hq, hpq⟩ := okP_ok hc
 have hT := triOk_of hv
 have h64 := valid64 hv
 obtain ⟨hn64, h128⟩ := valid_len hv
 refine ⟨0, ?_⟩
 rw [eq406]
 unfold S406
 have c0 : gcall G none 401 [vl vs, tl ts] 2 = some [mpD il (byT ts).1, edl (sortE (byT ts).2)] := gcall_on g401 rfl (F401_m h64) rfl
 have c1 : gcall G none 400 [.int p, .int q] 2 = some [.int (min p q), .int (max p q)] := gcall_on g400 rfl rfl rfl
 have k0 := kD_uE p q
 have q1 : gev none .mget [mpD il (byT ts).1, kD (uE p q), .lst []] = some (il (atL ts p q)) := by rw [lst_nil, q_get (kIn_uE ⟨hp.1, by omega⟩ ⟨hq.1, by omega⟩), getD_map, by_at hT hpq]
 have hll := len_il (l := atL ts p q)
 unfold flipB
 by_cases h2 : (atL ts p q).length = 2
 case neg =>
  have d : (((atL ts p q).length : Int) != 2) = true := by rw [bne_iff_ne]; omega
  rw [if_neg (by simp [h2])]
  repeat' first
   | with_reducible refine st_ift ?_
   | ((with_reducible apply st_some); exact c0)
   | ((with_reducible apply st_some); exact c1)
   | ((with_reducible apply st_some); exact k0)
   | ((with_reducible apply st_some); exact q1)
   | ((with_reducible apply st_some); exact hll)
   | ((with_reducible apply st_t); exact rfl; assumption)
   | exact rfl
 case pos =>
  have d : (((atL ts p q).length : Int) != 2) = false := by rw [h2]; rfl
  rw [decide_eq_true h2, Bool.true_and];obtain ⟨u, v, g, huv, _, e1, e2, a1, b1, a2, _, _, k1, k2, hC, hE, _, _⟩ := two_facts hv g407 g408 hpq h2;have i0 : gev none .idx [il (atL ts p q), .int 0] = some (.int u) := by rw [huv]; exact p_j0
  have i1 : gev none .idx [il (atL ts p q), .int 1] = some (.int v) := by rw [huv]; exact p_j1
  have c2 : gcall G none 400 [.int (flC ts p q), .int (flD ts p q)] 2 = some [.int (min (flC ts p q) (flD ts p q)), .int (max (flC ts p q) (flD ts p q))] := gcall_on g400 rfl rfl rfl;have k3 := kD_uE (flC ts p q) (flD ts p q);have hcd : gev none (.icm .eql) [.int (flC ts p q), .int (flD ts p q)] = some (.bool (flC ts p q == flD ts p q)) := rfl;have q2 : (flC ts p q == flD ts p q) = false → gev none .mget [mpD il (byT ts).1, kD (uE (flC ts p q) (flD ts p q)), .lst []] = some (il (atL ts (flC ts p q) (flD ts p q))) := by intro hne;rw [lst_nil, q_get (kIn_uE ⟨hC.1, by omega⟩ ⟨hE.1, by omega⟩), getD_map, by_at hT (by simpa using hne)]
  have hl2 := len_il (l := atL ts (flC ts p q) (flD ts p q));have hz : gev none (.icm .gtr) [.int ((atL ts (flC ts p q) (flD ts p q)).length : Int), .int 0] = some (.bool (!decide ((atL ts (flC ts p q) (flD ts p q)).length = 0))) := by
   show some (D.bool _) = _
   congr 2
   rw [Bool.eq_iff_iff];simp only [decide_eq_true_eq, Bool.not_eq_true', decide_eq_false_iff_not];omega
  unfold flipQ;rw [show (flC ts p q != flD ts p q) = !(flC ts p q == flD ts p q) from rfl]
  generalize (flC ts p q == flD ts p q) = bc at *;generalize decide ((atL ts (flC ts p q) (flD ts p q)).length = 0) = bz at *;generalize atL ts (flC ts p q) (flD ts p q) = L2 at *;generalize uE (flC ts p q) (flD ts p q) = ce at *;generalize flC ts p q = C at *;generalize flD ts p q = E at *;generalize atL ts p q = L at *
  cases g with
  | true =>
   rw [if_pos rfl] at e1 e2;rw [e1] at k1 ⊢;rw [e2] at k2 ⊢
   cases bc with
   | true =>
    clear q2
    cases bz <;>
     repeat' first
      | with_reducible refine st_ift ?_
      | with_reducible refine st_iff ?_
      | ((with_reducible refine st_join (ds := [.int u, .int v]) ?_ rfl ?_))
      | ((with_reducible apply st_some); exact c0)
      | ((with_reducible apply st_some); exact c1)
      | ((with_reducible apply st_some); exact k0)
      | ((with_reducible apply st_some); exact q1)
      | ((with_reducible apply st_some); exact hll)
      | ((with_reducible apply st_some); exact i0)
      | ((with_reducible apply st_some); exact i1)
      | ((with_reducible apply st_some); exact a1)
      | ((with_reducible apply st_some); exact b1)
      | ((with_reducible apply st_some); exact a2)
      | ((with_reducible apply st_some); exact k1)
      | ((with_reducible apply st_some); exact k2)
      | ((with_reducible apply st_some); exact hcd)
      | ((with_reducible apply st_skip); exact rfl)
      | ((with_reducible apply st_t); exact rfl; exact rfl)
      | ((with_reducible apply st_f); exact rfl; exact rfl)
      | ((with_reducible apply st_f); exact rfl; assumption)
      | ((with_reducible apply st_some); exact rfl)
      | exact rfl
   | false =>
    have q2 := q2 rfl
    cases bz <;>
     repeat' first
      | with_reducible refine st_ift ?_
      | with_reducible refine st_iff ?_
      | ((with_reducible refine st_join (ds := [.int u, .int v]) ?_ rfl ?_))
      | ((with_reducible apply st_some); exact c0)
      | ((with_reducible apply st_some); exact c1)
      | ((with_reducible apply st_some); exact k0)
      | ((with_reducible apply st_some); exact q1)
      | ((with_reducible apply st_some); exact hll)
      | ((with_reducible apply st_some); exact i0)
      | ((with_reducible apply st_some); exact i1)
      | ((with_reducible apply st_some); exact a1)
      | ((with_reducible apply st_some); exact b1)
      | ((with_reducible apply st_some); exact a2)
      | ((with_reducible apply st_some); exact k1)
      | ((with_reducible apply st_some); exact k2)
      | ((with_reducible apply st_some); exact hcd)
      | ((with_reducible apply st_some); exact c2)
      | ((with_reducible apply st_some); exact k3)
      | ((with_reducible apply st_some); exact q2)
      | ((with_reducible apply st_some); exact hl2)
      | ((with_reducible apply st_some); exact hz)
      | ((with_reducible apply st_t); exact rfl; exact rfl)
      | ((with_reducible apply st_f); exact rfl; exact rfl)
      | ((with_reducible apply st_f); exact rfl; assumption)
      | ((with_reducible apply st_some); exact rfl)
      | exact rfl
  | false =>
   rw [if_neg (by simp)] at e1 e2
   rw [e1] at k1 ⊢;rw [e2] at k2 ⊢
   cases bc with
   | true =>
    clear q2
    cases bz <;>
     repeat' first
      | with_reducible refine st_ift ?_
      | with_reducible refine st_iff ?_
      | ((with_reducible refine st_join (ds := [.int v, .int u]) ?_ rfl ?_))
      | ((with_reducible apply st_some); exact c0)
      | ((with_reducible apply st_some); exact c1)
      | ((with_reducible apply st_some); exact k0)
      | ((with_reducible apply st_some); exact q1)
      | ((with_reducible apply st_some); exact hll)
      | ((with_reducible apply st_some); exact i0)
      | ((with_reducible apply st_some); exact i1)
      | ((with_reducible apply st_some); exact a1)
      | ((with_reducible apply st_some); exact b1)
      | ((with_reducible apply st_some); exact a2)
      | ((with_reducible apply st_some); exact k1)
      | ((with_reducible apply st_some); exact k2)
      | ((with_reducible apply st_some); exact hcd)
      | ((with_reducible apply st_skip); exact rfl)
      | ((with_reducible apply st_t); exact rfl; exact rfl)
      | ((with_reducible apply st_f); exact rfl; assumption)
      | ((with_reducible apply st_some); exact rfl)
      | exact rfl
   | false =>
    have q2 := q2 rfl
    cases bz <;>
     repeat' first
      | with_reducible refine st_ift ?_
      | with_reducible refine st_iff ?_
      | ((with_reducible refine st_join (ds := [.int v, .int u]) ?_ rfl ?_))
      | ((with_reducible apply st_some); exact c0)
      | ((with_reducible apply st_some); exact c1)
      | ((with_reducible apply st_some); exact k0)
      | ((with_reducible apply st_some); exact q1)
      | ((with_reducible apply st_some); exact hll)
      | ((with_reducible apply st_some); exact i0)
      | ((with_reducible apply st_some); exact i1)
      | ((with_reducible apply st_some); exact a1)
      | ((with_reducible apply st_some); exact b1)
      | ((with_reducible apply st_some); exact a2)
      | ((with_reducible apply st_some); exact k1)
      | ((with_reducible apply st_some); exact k2)
      | ((with_reducible apply st_some); exact hcd)
      | ((with_reducible apply st_some); exact c2)
      | ((with_reducible apply st_some); exact k3)
      | ((with_reducible apply st_some); exact q2)
      | ((with_reducible apply st_some); exact hl2)
      | ((with_reducible apply st_some); exact hz)
      | ((with_reducible apply st_t); exact rfl; exact rfl)
      | ((with_reducible apply st_f); exact rfl; exact rfl)
      | ((with_reducible apply st_f); exact rfl; assumption)
      | ((with_reducible apply st_some); exact rfl)
      | exact rfl
end Vs
