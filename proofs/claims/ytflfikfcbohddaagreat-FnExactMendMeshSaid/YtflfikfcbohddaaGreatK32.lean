/-
  The best edge of a mesh: the reference, and the laws ShortestEdge, LongestEdge, BestFlip.
-/
import Derived.Test.YtflfikfcbohddaaGreatK29
set_option maxHeartbeats 4000000
namespace Vs
open Go Go.Sort
def betO (bet : Nat → Nat → Bool) : Option (Nat × Nat) → Nat → Bool
 | none, _ => true
 | some (_, v), x => bet x v
def bstS (num : E2 → Option Nat) (bet : Nat → Nat → Bool) (es : List E2) (st : Option (Nat × Nat)) (i : Nat) : Option (Nat × Nat) :=
 match num (es.getD i (0, 0)) with
 | none => st
 | some x => if (feq .f32 x x && betO bet st x) = true then some (i, x) else st
def bstN (num : E2 → Option Nat) (bet : Nat → Nat → Bool) (es : List E2) : Nat → Option (Nat × Nat)
 | 0 => none
 | i + 1 => bstS num bet es (bstN num bet es i) i
def bstR (es : List E2) : Option (Nat × Nat) → List D
 | none => [il [], .flt 0, .bool false]
 | some (j, v) => [il [(es.getD j (0, 0)).1, (es.getD j (0, 0)).2], .flt v, .bool true]
def bstP (num : E2 → Option Nat) (bet : Nat → Nat → Bool) (es : List E2) : List D := bstR es (bstN num bet es es.length)
def numL (vs : List V3) (e : E2) : Option Nat := some (lenP vs e.1 e.2)
def numF (vs : List V3) (ts : List (List Int)) (e : E2) : Option Nat := if flipB ts e.1 e.2 = true then some (gnP vs ts e.1 e.2) else none
def betL (l : Bool) (x v : Nat) : Bool := if l = true then fgt .f32 x v else flt .f32 x v
theorem bstN_lt {num : E2 → Option Nat} {bet : Nat → Nat → Bool} {es : List E2} : ∀ {i j v : Nat}, bstN num bet es i = some (j, v) → j < i
 | 0, _, _, h => by cases h
 | i + 1, j, v, h => by
  have h : bstS num bet es (bstN num bet es i) i = some (j, v) := h;unfold bstS at h;split at h
  ·exact Nat.lt_succ_of_lt (bstN_lt h)
  ·split at h
   ·simp only [Option.some.injEq, Prod.mk.injEq] at h
    omega
   ·exact Nat.lt_succ_of_lt (bstN_lt h)
theorem bstS_some {num : E2 → Option Nat} {bet : Nat → Nat → Bool} {es : List E2} {st : Option (Nat × Nat)} {i x : Nat} (h : num (es.getD i (0, 0)) = some x) : bstS num bet es st i = if (feq .f32 x x && betO bet st x) = true then some (i, x) else st := by
 unfold bstS
 rw [h]
theorem bstS_none {num : E2 → Option Nat} {bet : Nat → Nat → Bool} {es : List E2} {st : Option (Nat × Nat)} {i : Nat} (h : num (es.getD i (0, 0)) = none) : bstS num bet es st i = st := by
 unfold bstS
 rw [h]
theorem bstR_none {es : List E2} : bstR es none = [il [], .flt 0, .bool false] := (rfl)
theorem bstR_some {es : List E2} {j v : Nat} {p q : Int} (h : es.getD j (0, 0) = (p, q)) : bstR es (some (j, v)) = [il [p, q], .flt v, .bool true] := by
 unfold bstR
 simp only [h]
theorem bst3 (es : List E2) (st : Option (Nat × Nat)) : ∃ l x b, bstR es st = [il l, .flt x, .bool b] ∧ l.length ≤ 1048576 := by
 cases st with
 | none => exact ⟨_, _, _, rfl, by simp⟩
 | some s => exact ⟨_, _, _, rfl, by simp⟩
noncomputable def F425 : List D → Option (List D)
 | [a, _, .int p, .int q] => (dV a).bind fun vs => if inr vs.length p && inr vs.length q then some [.flt (lenP vs p q)] else none
 | _ => none
theorem F425_m {vs : List V3} {b : D} {p q : Int} (h : (inr vs.length p && inr vs.length q) = true) : F425 [vl vs, b, .int p, .int q] = some [.flt (lenP vs p q)] := by
 simp only [F425, dV_vl, Option.bind_some]
 rw [if_pos h]
noncomputable def F426 : List D → Option (List D)
 | [.int p, .int q, a, _] => (dV a).bind fun vs => if inr vs.length p && inr vs.length q then some [.flt (lenP vs p q), .bool true] else none
 | _ => none
theorem F426_m {vs : List V3} {b : D} {p q : Int} (h : (inr vs.length p && inr vs.length q) = true) : F426 [.int p, .int q, vl vs, b] = some [.flt (lenP vs p q), .bool true] := by
 simp only [F426, dV_vl, Option.bind_some]
 rw [if_pos h]
noncomputable def F427 : List D → Option (List D)
 | [.int p, .int q, a, b] => F417 [a, b, .int p, .int q]
 | _ => none
def F428 : List D → Option (List D) | [.flt x, .flt y] => some [.bool (fgt .f32 x y)] | _ => none
def F429 : List D → Option (List D) | [.flt x, .flt y] => some [.bool (flt .f32 x y)] | _ => none
noncomputable def F433 : List D → Option (List D)
 | [a, b, .bool l] => (dV a).bind fun vs => (dT b).bind fun ts => if validP vs.length ts = true then some (bstP (numL vs) (betL l) (edgL ts vs.length)) else none
 | _ => none
theorem F433_m {vs : List V3} {ts : List (List Int)} {l : Bool} (h : validP vs.length ts = true) : F433 [vl vs, tl ts, .bool l] = some (bstP (numL vs) (betL l) (edgL ts vs.length)) := by
 simp only [F433, dV_vl, dT_tl, Option.bind_some]
 rw [if_pos h]
noncomputable def F437 : List D → Option (List D)
 | [a, b] => (dV a).bind fun vs => (dT b).bind fun ts => if validP vs.length ts = true then some (bstP (numF vs ts) (betL true) (edgL ts vs.length)) else none
 | _ => none
theorem F437_m {vs : List V3} {ts : List (List Int)} (h : validP vs.length ts = true) : F437 [vl vs, tl ts] = some (bstP (numF vs ts) (betL true) (edgL ts vs.length)) := by
 simp only [F437, dV_vl, dT_tl, Option.bind_some]
 rw [if_pos h]
noncomputable def F434 : List D → Option (List D)
 | [a, b] => (dV a).bind fun vs => (dT b).bind fun ts => if szM vs ts ≤ 1048576 then some (if validP vs.length ts = true then bstP (numL vs) (betL true) (edgL ts vs.length) else bstR [] none) else none
 | _ => none
theorem F434_m {vs : List V3} {ts : List (List Int)} (h : szM vs ts ≤ 1048576) : F434 [vl vs, tl ts] = some (if validP vs.length ts = true then bstP (numL vs) (betL true) (edgL ts vs.length) else bstR [] none) := by
 simp only [F434, dV_vl, dT_tl, Option.bind_some]
 rw [if_pos h]
noncomputable def F435 : List D → Option (List D)
 | [a, b] => (dV a).bind fun vs => (dT b).bind fun ts => if szM vs ts ≤ 1048576 then some (if validP vs.length ts = true then bstP (numL vs) (betL false) (edgL ts vs.length) else bstR [] none) else none
 | _ => none
theorem F435_m {vs : List V3} {ts : List (List Int)} (h : szM vs ts ≤ 1048576) : F435 [vl vs, tl ts] = some (if validP vs.length ts = true then bstP (numL vs) (betL false) (edgL ts vs.length) else bstR [] none) := by
 simp only [F435, dV_vl, dT_tl, Option.bind_some]
 rw [if_pos h]
noncomputable def F436 : List D → Option (List D)
 | [a, b] => (dV a).bind fun vs => (dT b).bind fun ts => if szM vs ts ≤ 1048576 then some (if (validP vs.length ts && sheetP ts) = true then bstP (numF vs ts) (betL true) (edgL ts vs.length) else bstR [] none) else none
 | _ => none
theorem F436_m {vs : List V3} {ts : List (List Int)} (h : szM vs ts ≤ 1048576) : F436 [vl vs, tl ts] = some (if (validP vs.length ts && sheetP ts) = true then bstP (numF vs ts) (betL true) (edgL ts vs.length) else bstR [] none) := by
 simp only [F436, dV_vl, dT_tl, Option.bind_some]
 rw [if_pos h]
def T425 : T :=
(oo .idx [0, 2] <|
oo (.proj 0) [4] <|
oo (.proj 1) [4] <|
oo (.proj 2) [4] <|
oo .idx [0, 3] <|
oo (.proj 0) [8] <|
oo (.proj 1) [8] <|
oo (.proj 2) [8] <|
cc 13 [5, 6, 7, 9, 10, 11] 3 <|
cc 15 [12, 13, 14] 1 <|
.out 0 [15])
def S425 (G : Told) (_fuel : Nat) (x0 _x1 x2 x3 : D) : Option (Nat × List D) :=
 (gev none .idx [x0, x2]).bind fun x4 =>
 (gev none (.proj 0) [x4]).bind fun x5 =>
 (gev none (.proj 1) [x4]).bind fun x6 =>
 (gev none (.proj 2) [x4]).bind fun x7 =>
 (gev none .idx [x0, x3]).bind fun x8 =>
 (gev none (.proj 0) [x8]).bind fun x9 =>
 (gev none (.proj 1) [x8]).bind fun x10 =>
 (gev none (.proj 2) [x8]).bind fun x11 =>
 (gcall G none 13 [x5, x6, x7, x9, x10, x11] 3).bind fun e12 =>
 (gcall G none 15 [e12.getD 0 .undef, e12.getD 1 .undef, e12.getD 2 .undef] 1).bind fun e15 =>
 some (0, [e15.getD 0 .undef])
theorem eq425 {G fuel} (x0 x1 x2 x3) : run G fuel T425 [x0, x1, x2, x3] = S425 G fuel x0 x1 x2 x3 := by rw [run_eq]; kernel_rfl
def T426 : T :=
(cc 425 [2, 3, 0, 1] 1 <|
.out 0 [4, kT])
def S426 (G : Told) (_fuel : Nat) (x0 x1 x2 x3 : D) : Option (Nat × List D) :=
 (gcall G none 425 [x2, x3, x0, x1] 1).bind fun e4 =>
 some (0, [e4.getD 0 .undef, .bool true])
theorem eq426 {G fuel} (x0 x1 x2 x3) : run G fuel T426 [x0, x1, x2, x3] = S426 G fuel x0 x1 x2 x3 := by rw [run_eq]; kernel_rfl
def T427 : T :=
(cc 417 [2, 3, 0, 1] 2 <|
.out 0 [4, 5])
def S427 (G : Told) (_fuel : Nat) (x0 x1 x2 x3 : D) : Option (Nat × List D) :=
 (gcall G none 417 [x2, x3, x0, x1] 2).bind fun e4 =>
 some (0, [e4.getD 0 .undef, e4.getD 1 .undef])
theorem eq427 {G fuel} (x0 x1 x2 x3) : run G fuel T427 [x0, x1, x2, x3] = S427 G fuel x0 x1 x2 x3 := by rw [run_eq]; kernel_rfl
def T428 : T :=
(oo (.fcm .gtr .f32) [0, 1] <|
.out 0 [2])
def S428 (_G : Told) (_fuel : Nat) (x0 x1 : D) : Option (Nat × List D) :=
 (gev none (.fcm .gtr .f32) [x0, x1]).bind fun x2 =>
 some (0, [x2])
theorem eq428 {G fuel} (x0 x1) : run G fuel T428 [x0, x1] = S428 G fuel x0 x1 := by rw [run_eq]; kernel_rfl
def T429 : T :=
(oo (.fcm .lss .f32) [0, 1] <|
.out 0 [2])
def S429 (_G : Told) (_fuel : Nat) (x0 x1 : D) : Option (Nat × List D) :=
 (gev none (.fcm .lss .f32) [x0, x1]).bind fun x2 =>
 some (0, [x2])
theorem eq429 {G fuel} (x0 x1) : run G fuel T429 [x0, x1] = S429 G fuel x0 x1 := by rw [run_eq]; kernel_rfl
def T433 : T :=
(cc 413 [0, 1] 1 <|
.join 6
 (.loop [(.c (.int (-1))), kF 0, kI 0]
  (oo .len [3] <|
  oo (.icm .lss) [6, 7] <|
  .ite 8
   (oo .idx [3, 6] <|
   oo .idx [3, 6] <|
   oo .idx [10, kI 0] <|
   oo .idx [10, kI 0] <|
   oo .idx [0, 12] <|
   oo (.proj 0) [13] <|
   oo (.proj 1) [13] <|
   oo (.proj 2) [13] <|
   oo .idx [3, 6] <|
   oo .idx [3, 6] <|
   oo .idx [18, kI 1] <|
   oo .idx [18, kI 1] <|
   oo .idx [0, 20] <|
   oo (.proj 0) [21] <|
   oo (.proj 1) [21] <|
   oo (.proj 2) [21] <|
   cc 13 [14, 15, 16, 22, 23, 24] 3 <|
   cc 15 [25, 26, 27] 1 <|
   oo (.fcm .eql .f32) [28, 28] <|
   oT 29 .id [4] <|
   oT 29 (.icm .lss) [30, kI 0] <|
   oT 29 .id [31] <|
   oN 32 .id [2] <|
   oN 32 .id [33] <|
   oT 34 .id [28] <|
   oT 34 .id [5] <|
   oT 34 (.fcm .gtr .f32) [35, 36] <|
   oN 32 .pick [34, 37, kN] <|
   oT 29 .pick [32, kT, 38] <|
   oT 29 .id [39] <|
   oN 40 .id [2] <|
   oN 40 .bnot [41] <|
   oN 40 .id [42] <|
   oT 43 .id [28] <|
   oT 43 .id [5] <|
   oT 43 (.fcm .lss .f32) [44, 45] <|
   oN 40 .pick [43, 46, kN] <|
   oT 29 .pick [40, kT, 47] <|
   oo .pick [29, 48, kN] <|
   .join 2
    (.ite 49
     (.out 0 [6, 28])
     (.out 0 [4, 5]))
   (oo (.iar .add .i64) [6, kI 1] <|
   .out 0 [50, 51, 52]))
   (.out 1 [4, 5, 6, 6, 7, 8])))
(oo (.icm .lss) [4, kI 0] <|
.ite 10
 (.out 0 [kL, (.c (.flt 0)), kN])
 (oo .idx [3, 4] <|
 oo .idx [3, 4] <|
 .out 0 [12, 5, kT])))
def S433L0 (G : Told) (x0 : D) (x2 : D) (e3 : List D) : List D → Option (Nat × List D) := fun e4 =>
   (gev none .len [e3.getD 0 .undef]).bind fun x7 =>
   (gev none (.icm .lss) [e4.getD 2 .undef, x7]).bind fun x8 =>
   tif x8 (
    (gev none .idx [e3.getD 0 .undef, e4.getD 2 .undef]).bind fun _x9 =>
    (gev none .idx [e3.getD 0 .undef, e4.getD 2 .undef]).bind fun x10 =>
    (gev none .idx [x10, .int 0]).bind fun _x11 =>
    (gev none .idx [x10, .int 0]).bind fun x12 =>
    (gev none .idx [x0, x12]).bind fun x13 =>
    (gev none (.proj 0) [x13]).bind fun x14 =>
    (gev none (.proj 1) [x13]).bind fun x15 =>
    (gev none (.proj 2) [x13]).bind fun x16 =>
    (gev none .idx [e3.getD 0 .undef, e4.getD 2 .undef]).bind fun _x17 =>
    (gev none .idx [e3.getD 0 .undef, e4.getD 2 .undef]).bind fun x18 =>
    (gev none .idx [x18, .int 1]).bind fun _x19 =>
    (gev none .idx [x18, .int 1]).bind fun x20 =>
    (gev none .idx [x0, x20]).bind fun x21 =>
    (gev none (.proj 0) [x21]).bind fun x22 =>
    (gev none (.proj 1) [x21]).bind fun x23 =>
    (gev none (.proj 2) [x21]).bind fun x24 =>
    (gcall G none 13 [x14, x15, x16, x22, x23, x24] 3).bind fun e25 =>
    (gcall G none 15 [e25.getD 0 .undef, e25.getD 1 .undef, e25.getD 2 .undef] 1).bind fun e28 =>
    (gev none (.fcm .eql .f32) [e28.getD 0 .undef, e28.getD 0 .undef]).bind fun x29 =>
    (gev (some (x29, true)) .id [e4.getD 0 .undef]).bind fun x30 =>
    (gev (some (x29, true)) (.icm .lss) [x30, .int 0]).bind fun x31 =>
    (gev (some (x29, true)) .id [x31]).bind fun x32 =>
    (gev (some (x32, false)) .id [x2]).bind fun x33 =>
    (gev (some (x32, false)) .id [x33]).bind fun x34 =>
    (gev (some (x34, true)) .id [e28.getD 0 .undef]).bind fun x35 =>
    (gev (some (x34, true)) .id [e4.getD 1 .undef]).bind fun x36 =>
    (gev (some (x34, true)) (.fcm .gtr .f32) [x35, x36]).bind fun x37 =>
    (gev (some (x32, false)) .pick [x34, x37, .bool false]).bind fun x38 =>
    (gev (some (x29, true)) .pick [x32, .bool true, x38]).bind fun x39 =>
    (gev (some (x29, true)) .id [x39]).bind fun x40 =>
    (gev (some (x40, false)) .id [x2]).bind fun x41 =>
    (gev (some (x40, false)) .bnot [x41]).bind fun x42 =>
    (gev (some (x40, false)) .id [x42]).bind fun x43 =>
    (gev (some (x43, true)) .id [e28.getD 0 .undef]).bind fun x44 =>
    (gev (some (x43, true)) .id [e4.getD 1 .undef]).bind fun x45 =>
    (gev (some (x43, true)) (.fcm .lss .f32) [x44, x45]).bind fun x46 =>
    (gev (some (x40, false)) .pick [x43, x46, .bool false]).bind fun x47 =>
    (gev (some (x29, true)) .pick [x40, .bool true, x47]).bind fun x48 =>
    (gev none .pick [x29, x48, .bool false]).bind fun x49 =>
    tjoin 2 (
     tif x49 (
      some (0, [e4.getD 2 .undef, e28.getD 0 .undef])) (
      some (0, [e4.getD 0 .undef, e4.getD 1 .undef]))) fun e50 =>
    (gev none (.iar .add .i64) [e4.getD 2 .undef, .int 1]).bind fun x52 =>
    some (0, [e50.getD 0 .undef, e50.getD 1 .undef, x52])) (
    some (1, [e4.getD 0 .undef, e4.getD 1 .undef, e4.getD 2 .undef, e4.getD 2 .undef, x7, x8]))
def S433 (G : Told) (fuel : Nat) (x0 x1 x2 : D) : Option (Nat × List D) :=
 (gcall G none 413 [x0, x1] 1).bind fun e3 =>
 tjoin 6 (
  iter (tbody 3 (S433L0 G x0 x2 e3)) fuel [(.int (-1)), .flt 0, .int 0]) fun e4 =>
 (gev none (.icm .lss) [e4.getD 0 .undef, .int 0]).bind fun x10 =>
 tif x10 (
  some (0, [(.lst []), (.flt 0), (.bool false)])) (
  (gev none .idx [e3.getD 0 .undef, e4.getD 0 .undef]).bind fun _x11 =>
  (gev none .idx [e3.getD 0 .undef, e4.getD 0 .undef]).bind fun x12 =>
  some (0, [x12, e4.getD 1 .undef, .bool true]))
theorem eq433 {G fuel} (x0 x1 x2) : run G fuel T433 [x0, x1, x2] = S433 G fuel x0 x1 x2 := by rw [run_eq]; kernel_rfl
def T437 : T :=
(cc 413 [0, 1] 1 <|
.join 6
 (.loop [(.c (.int (-1))), kF 0, kI 0]
  (oo .len [2] <|
  oo (.icm .lss) [5, 6] <|
  .ite 7
   (oo .idx [2, 5] <|
   oo .idx [2, 5] <|
   oo .idx [9, kI 0] <|
   oo .idx [9, kI 0] <|
   oo .idx [2, 5] <|
   oo .idx [2, 5] <|
   oo .idx [13, kI 1] <|
   oo .idx [13, kI 1] <|
   cc 417 [0, 1, 11, 15] 2 <|
   oT 17 .id [16] <|
   oT 17 .id [16] <|
   oT 17 (.fcm .eql .f32) [18, 19] <|
   oo .pick [17, 20, kN] <|
   oT 21 .id [3] <|
   oT 21 (.icm .lss) [22, kI 0] <|
   oT 21 .id [23] <|
   oN 24 .id [16] <|
   oN 24 .id [4] <|
   oN 24 (.fcm .gtr .f32) [25, 26] <|
   oT 21 .pick [24, kT, 27] <|
   oo .pick [21, 28, kN] <|
   .join 2
    (.ite 29
     (.out 0 [5, 16])
     (.out 0 [3, 4]))
   (oo (.iar .add .i64) [5, kI 1] <|
   .out 0 [30, 31, 32]))
   (.out 1 [3, 4, 5, 5, 6, 7])))
(oo (.icm .lss) [3, kI 0] <|
.ite 9
 (.out 0 [kL, (.c (.flt 0)), kN])
 (oo .idx [2, 3] <|
 oo .idx [2, 3] <|
 .out 0 [11, 4, kT])))
def S437L0 (G : Told) (x0 : D) (x1 : D) (e2 : List D) : List D → Option (Nat × List D) := fun e3 =>
   (gev none .len [e2.getD 0 .undef]).bind fun x6 =>
   (gev none (.icm .lss) [e3.getD 2 .undef, x6]).bind fun x7 =>
   tif x7 (
    (gev none .idx [e2.getD 0 .undef, e3.getD 2 .undef]).bind fun _x8 =>
    (gev none .idx [e2.getD 0 .undef, e3.getD 2 .undef]).bind fun x9 =>
    (gev none .idx [x9, .int 0]).bind fun _x10 =>
    (gev none .idx [x9, .int 0]).bind fun x11 =>
    (gev none .idx [e2.getD 0 .undef, e3.getD 2 .undef]).bind fun _x12 =>
    (gev none .idx [e2.getD 0 .undef, e3.getD 2 .undef]).bind fun x13 =>
    (gev none .idx [x13, .int 1]).bind fun _x14 =>
    (gev none .idx [x13, .int 1]).bind fun x15 =>
    (gcall G none 417 [x0, x1, x11, x15] 2).bind fun e16 =>
    (gev (some ((e16.getD 1 .undef), true)) .id [e16.getD 0 .undef]).bind fun x18 =>
    (gev (some ((e16.getD 1 .undef), true)) .id [e16.getD 0 .undef]).bind fun x19 =>
    (gev (some ((e16.getD 1 .undef), true)) (.fcm .eql .f32) [x18, x19]).bind fun x20 =>
    (gev none .pick [e16.getD 1 .undef, x20, .bool false]).bind fun x21 =>
    (gev (some (x21, true)) .id [e3.getD 0 .undef]).bind fun x22 =>
    (gev (some (x21, true)) (.icm .lss) [x22, .int 0]).bind fun x23 =>
    (gev (some (x21, true)) .id [x23]).bind fun x24 =>
    (gev (some (x24, false)) .id [e16.getD 0 .undef]).bind fun x25 =>
    (gev (some (x24, false)) .id [e3.getD 1 .undef]).bind fun x26 =>
    (gev (some (x24, false)) (.fcm .gtr .f32) [x25, x26]).bind fun x27 =>
    (gev (some (x21, true)) .pick [x24, .bool true, x27]).bind fun x28 =>
    (gev none .pick [x21, x28, .bool false]).bind fun x29 =>
    tjoin 2 (
     tif x29 (
      some (0, [e3.getD 2 .undef, e16.getD 0 .undef])) (
      some (0, [e3.getD 0 .undef, e3.getD 1 .undef]))) fun e30 =>
    (gev none (.iar .add .i64) [e3.getD 2 .undef, .int 1]).bind fun x32 =>
    some (0, [e30.getD 0 .undef, e30.getD 1 .undef, x32])) (
    some (1, [e3.getD 0 .undef, e3.getD 1 .undef, e3.getD 2 .undef, e3.getD 2 .undef, x6, x7]))
def S437 (G : Told) (fuel : Nat) (x0 x1 : D) : Option (Nat × List D) :=
 (gcall G none 413 [x0, x1] 1).bind fun e2 =>
 tjoin 6 (
  iter (tbody 3 (S437L0 G x0 x1 e2)) fuel [(.int (-1)), .flt 0, .int 0]) fun e3 =>
 (gev none (.icm .lss) [e3.getD 0 .undef, .int 0]).bind fun x9 =>
 tif x9 (
  some (0, [(.lst []), (.flt 0), (.bool false)])) (
  (gev none .idx [e2.getD 0 .undef, e3.getD 0 .undef]).bind fun _x10 =>
  (gev none .idx [e2.getD 0 .undef, e3.getD 0 .undef]).bind fun x11 =>
  some (0, [x11, e3.getD 1 .undef, .bool true]))
theorem eq437 {G fuel} (x0 x1) : run G fuel T437 [x0, x1] = S437 G fuel x0 x1 := by rw [run_eq]; kernel_rfl
theorem edg_get {n : Nat} {ts : List (List Int)} {i : Nat} (h : i < (edgL ts n).length) : ∃ p q : Int, (edgL ts n).getD i (0, 0) = (p, q) ∧ (inr n p && inr n q) = true ∧ p ≠ q ∧ gev none .idx [tl (etl (edgL ts n)), .int (i : Int)] = some (il [p, q]) := by
 have hm : (edgL ts n)[i] ∈ edgN ts n n := List.getElem_mem h
 obtain ⟨a, b, ha, hb, hab, _, he⟩ := (edgN_mem ts n n _).1 hm
 refine ⟨a, b, by rw [getD_lt h, he], ?_, by omega, ?_⟩
 ·rw [Bool.and_eq_true, inr_iff, inr_iff]
  omega
 ·rw [idx_tl (by rw [etl_len]; exact h)]
  simp [etl, he]
theorem edg_len {n : Nat} {ts : List (List Int)} (h : n ≤ 64) : (edgL ts n).length ≤ 4096 :=
 Nat.le_trans (edgN_len ts n n) (Nat.mul_le_mul h h)
theorem ok_of {n : Nat} {ts : List (List Int)} {p q : Int} (hv : validP n ts = true) (h : (inr n p && inr n q) = true) (hpq : p ≠ q) : okP n ts p q = true := by
 unfold okP
 rw [hv, h]
 simp [hpq]
theorem run428 {G : Told} : Runs G F428 T428 := by
 intro ds rs h
 unfold F428 at h
 split at h <;> simp only [Option.some.injEq, reduceCtorEq] at h
 subst h
 refine ⟨0, ?_⟩
 rw [eq428]
 rfl
theorem run429 {G : Told} : Runs G F429 T429 := by
 intro ds rs h
 unfold F429 at h
 split at h <;> simp only [Option.some.injEq, reduceCtorEq] at h
 subst h
 refine ⟨0, ?_⟩
 rw [eq429]
 rfl
attribute [local irreducible] IntKind.wrap il tl vl bo mpD kD inr validP sheetP longP fsub lenP atV flC flD oneI twoI pairP flipQ atL thirdP fgt flt fge feq flipB gnP edgL etl

theorem run425 {G : Told} (g13 : G 13 = F13) (g15 : G 15 = F15) : Runs G F425 T425 := by
 intro ds rs h
 unfold F425 at h
 split at h
 case h_2 => cases h
 rename_i a b p q
 obtain ⟨vs, ha, h⟩ := Option.bind_eq_some_iff.1 h
 rw [dV_inv ha]
 split at h
 case isFalse => cases h
 rename_i hc
 simp only [Option.some.injEq] at h
 subst h
 clear ha
 have hc2 := hc
 rw [Bool.and_eq_true, inr_iff, inr_iff] at hc2
 obtain ⟨hp, hq⟩ := hc2
 refine ⟨0, ?_⟩
 rw [eq425]
 unfold S425
 have hv1 : gev none .idx [vl vs, .int p] = some (vec (atV vs p)) := by unfold atV; exact p_vj hp.1 (by omega)
 have hv2 : gev none .idx [vl vs, .int q] = some (vec (atV vs q)) := by unfold atV; exact p_vj hq.1 (by omega)
 have c13 : ∀ a b c x y z : Nat, gcall G none 13 [.flt a, .flt b, .flt c, .flt x, .flt y, .flt z] 3 = some [.flt (fsub .f32 a x), .flt (fsub .f32 b y), .flt (fsub .f32 c z)] := fun a b c x y z => gcall_on g13 rfl rfl rfl
 have c15 : gcall G none 15 [.flt (fsub .f32 (atV vs p).x (atV vs q).x), .flt (fsub .f32 (atV vs p).y (atV vs q).y), .flt (fsub .f32 (atV vs p).z (atV vs q).z)] 1 = some [.flt (lenP vs p q)] := by unfold lenP; exact gcall_on g15 rfl rfl rfl
 simp only [ev0, p_v0, p_v1, p_v2, hv1, hv2, c13, c15]
theorem run426 {G : Told} (g425 : G 425 = F425) : Runs G F426 T426 := by
 intro ds rs h
 unfold F426 at h
 split at h
 case h_2 => cases h
 rename_i p q a b
 obtain ⟨vs, ha, h⟩ := Option.bind_eq_some_iff.1 h
 rw [dV_inv ha]
 split at h
 case isFalse => cases h
 rename_i hc
 simp only [Option.some.injEq] at h
 subst h
 clear ha
 refine ⟨0, ?_⟩
 rw [eq426]
 unfold S426
 have c : gcall G none 425 [vl vs, b, .int p, .int q] 1 = some [.flt (lenP vs p q)] := gcall_on g425 rfl (F425_m hc) rfl
 simp only [Option.bind_some, List.getD_cons_zero, c]
theorem run427 {G : Told} (g417 : G 417 = F417) : Runs G F427 T427 := by
 intro ds rs h
 unfold F427 at h
 split at h
 case h_2 => cases h
 rename_i p q a b
 have hl : ∃ x y, rs = [x, y] := by
  unfold F417 at h;obtain ⟨vs, ha, h⟩ := Option.bind_eq_some_iff.1 h;obtain ⟨ts, hb, h⟩ := Option.bind_eq_some_iff.1 h;split at h
  ·simp only [Option.some.injEq] at h
   subst h;split <;> exact ⟨_, _, rfl⟩
  ·cases h
 obtain ⟨x, y, rfl⟩ := hl
 refine ⟨0, ?_⟩
 rw [eq427]
 unfold S427
 have c : gcall G none 417 [a, b, .int p, .int q] 2 = some [x, y] := gcall_on g417 rfl h rfl
 simp only [ev0, c]
def bsI : Option (Nat × Nat) → D | none => .int (-1) | some (j, _) => .int j
def bsV : Option (Nat × Nat) → D | none => .flt 0 | some (_, v) => .flt v
theorem j_neg {j : Nat} : gev none (.icm .lss) [.int (j : Int), .int 0] = some (.bool false) := by
 show some (D.bool _) = _
 simp
theorem edge_step {G : Told} (g13 : G 13 = F13) (g15 : G 15 = F15) {vs : List V3} {ts : List (List Int)} (hn : vs.length ≤ 64) (l : Bool) {i : Nat} (hi : i < (edgL ts vs.length).length) (s : Option (Nat × Nat)) :
  S433L0 G (vl vs) (.bool l) [tl (etl (edgL ts vs.length))] [bsI s, bsV s, .int (i : Int)] = some (0, [bsI (bstS (numL vs) (betL l) (edgL ts vs.length) s i), bsV (bstS (numL vs) (betL l) (edgL ts vs.length) s i), .int ((i + 1 : Nat) : Int)]) := by
 have h0 : gev none (.icm .lss) [.int (i : Int), .int ((edgL ts vs.length).length : Int)] = some (.bool true) := by show some (D.bool (decide _)) = _;simpa using hi
 have hlen := len_tl (l := etl (edgL ts vs.length))
 rw [etl_len] at hlen
 have hel := edg_len (ts := ts) hn
 have hadd := add1n (i := i) (by omega)
 obtain ⟨p, q, he, hpq, hne, hr⟩ := edg_get hi
 have r0 : gev none .idx [il [p, q], .int 0] = some (.int p) := p_j0
 have r1 : gev none .idx [il [p, q], .int 1] = some (.int q) := p_j1
 have hc2 := hpq
 rw [Bool.and_eq_true, inr_iff, inr_iff] at hc2
 obtain ⟨hp, hq⟩ := hc2
 have hv1 : gev none .idx [vl vs, .int p] = some (vec (atV vs p)) := by unfold atV; exact p_vj hp.1 (by omega)
 have hv2 : gev none .idx [vl vs, .int q] = some (vec (atV vs q)) := by unfold atV; exact p_vj hq.1 (by omega)
 have c13 : ∀ a b c x y z : Nat, gcall G none 13 [.flt a, .flt b, .flt c, .flt x, .flt y, .flt z] 3 = some [.flt (fsub .f32 a x), .flt (fsub .f32 b y), .flt (fsub .f32 c z)] := fun a b c x y z => gcall_on g13 rfl rfl rfl
 have c15 : gcall G none 15 [.flt (fsub .f32 (atV vs p).x (atV vs q).x), .flt (fsub .f32 (atV vs p).y (atV vs q).y), .flt (fsub .f32 (atV vs p).z (atV vs q).z)] 1 = some [.flt (lenP vs p q)] := by unfold lenP; exact gcall_on g15 rfl rfl rfl
 rw [bstS_some (x := lenP vs p q) (by rw [he]; rfl)]
 generalize edgL ts vs.length = es at *
 generalize lenP vs p q = L at *
 unfold S433L0
 have f1 : gev none (.fcm .eql .f32) [.flt L, .flt L] = some (.bool (feq .f32 L L)) := rfl
 generalize feq .f32 L L = b at *
 cases b with
 | false =>
  cases s with
  | none =>
   show _ = some (0, [D.int (-1), D.flt 0, _])
   repeat' first
    | with_reducible refine st_ift ?_
    | with_reducible refine st_iff ?_
    | (with_reducible refine st_join (ds := [.int (-1), .flt 0]) ?_ ?_ ?_)
    | ((with_reducible apply st_some); exact hlen)
    | ((with_reducible apply st_some); exact h0)
    | ((with_reducible apply st_some); exact hr)
    | ((with_reducible apply st_some); exact r0)
    | ((with_reducible apply st_some); exact r1)
    | ((with_reducible apply st_some); exact hv1)
    | ((with_reducible apply st_some); exact hv2)
    | ((with_reducible apply st_some); exact (c13 _ _ _ _ _ _))
    | ((with_reducible apply st_some); exact c15)
    | ((with_reducible apply st_some); exact f1)
    | ((with_reducible apply st_some); exact hadd)
    | ((with_reducible apply st_f); exact rfl; exact rfl)
    | ((with_reducible apply st_some); exact rfl)
    | exact rfl
  | some s =>
   obtain ⟨j, v⟩ := s;show _ = some (0, [D.int j, D.flt v, _]);unfold bsI bsV
   repeat' first
    | with_reducible refine st_ift ?_
    | with_reducible refine st_iff ?_
    | (with_reducible refine st_join (ds := [.int j, .flt v]) ?_ ?_ ?_)
    | ((with_reducible apply st_some); exact hlen)
    | ((with_reducible apply st_some); exact h0)
    | ((with_reducible apply st_some); exact hr)
    | ((with_reducible apply st_some); exact r0)
    | ((with_reducible apply st_some); exact r1)
    | ((with_reducible apply st_some); exact hv1)
    | ((with_reducible apply st_some); exact hv2)
    | ((with_reducible apply st_some); exact (c13 _ _ _ _ _ _))
    | ((with_reducible apply st_some); exact c15)
    | ((with_reducible apply st_some); exact f1)
    | ((with_reducible apply st_some); exact hadd)
    | ((with_reducible apply st_f); exact rfl; exact rfl)
    | ((with_reducible apply st_some); exact rfl)
    | exact rfl
 | true =>
  cases s with
  | none =>
   show _ = some (0, [D.int i, D.flt L, _])
   cases l
   ·repeat' first
     | with_reducible refine st_ift ?_
     | (with_reducible refine st_join (ds := [.int i, .flt L]) ?_ ?_ ?_)
     | ((with_reducible apply st_some); exact hlen)
     | ((with_reducible apply st_some); exact h0)
     | ((with_reducible apply st_some); exact hr)
     | ((with_reducible apply st_some); exact r0)
     | ((with_reducible apply st_some); exact r1)
     | ((with_reducible apply st_some); exact hv1)
     | ((with_reducible apply st_some); exact hv2)
     | ((with_reducible apply st_some); exact (c13 _ _ _ _ _ _))
     | ((with_reducible apply st_some); exact c15)
     | ((with_reducible apply st_some); exact f1)
     | ((with_reducible apply st_some); exact hadd)
     | ((with_reducible apply st_t); exact rfl; exact rfl)
     | ((with_reducible apply st_some); exact rfl)
     | exact rfl
   ·repeat' first
     | with_reducible refine st_ift ?_
     | (with_reducible refine st_join (ds := [.int i, .flt L]) ?_ ?_ ?_)
     | ((with_reducible apply st_some); exact hlen)
     | ((with_reducible apply st_some); exact h0)
     | ((with_reducible apply st_some); exact hr)
     | ((with_reducible apply st_some); exact r0)
     | ((with_reducible apply st_some); exact r1)
     | ((with_reducible apply st_some); exact hv1)
     | ((with_reducible apply st_some); exact hv2)
     | ((with_reducible apply st_some); exact (c13 _ _ _ _ _ _))
     | ((with_reducible apply st_some); exact c15)
     | ((with_reducible apply st_some); exact f1)
     | ((with_reducible apply st_some); exact hadd)
     | ((with_reducible apply st_t); exact rfl; exact rfl)
     | ((with_reducible apply st_some); exact rfl)
     | exact rfl
  | some s =>
   obtain ⟨j, v⟩ := s;have hj := j_neg (j := j);have f2 : gev none (.fcm .gtr .f32) [.flt L, .flt v] = some (.bool (fgt .f32 L v)) := rfl;have f3 : gev none (.fcm .lss .f32) [.flt L, .flt v] = some (.bool (flt .f32 L v)) := rfl;rw [show betO (betL l) (some (j, v)) L = (if l = true then fgt .f32 L v else flt .f32 L v) from rfl]
   generalize fgt .f32 L v = b2 at *;generalize flt .f32 L v = b3 at *
   cases l
   ·cases b3
    ·show _ = some (0, [D.int j, D.flt v, _])
     repeat' first
      | with_reducible refine st_ift ?_
      | with_reducible refine st_iff ?_
      | (with_reducible refine st_join (ds := [.int j, .flt v]) ?_ ?_ ?_)
      | ((with_reducible apply st_some); exact hlen)
      | ((with_reducible apply st_some); exact h0)
      | ((with_reducible apply st_some); exact hr)
      | ((with_reducible apply st_some); exact r0)
      | ((with_reducible apply st_some); exact r1)
      | ((with_reducible apply st_some); exact hv1)
      | ((with_reducible apply st_some); exact hv2)
      | ((with_reducible apply st_some); exact (c13 _ _ _ _ _ _))
      | ((with_reducible apply st_some); exact c15)
      | ((with_reducible apply st_some); exact f1)
      | ((with_reducible apply st_some); exact hj)
      | ((with_reducible apply st_some); exact f3)
      | ((with_reducible apply st_some); exact hadd)
      | ((with_reducible apply st_t); exact rfl; exact rfl)
      | ((with_reducible apply st_some); exact rfl)
      | exact rfl
    ·show _ = some (0, [D.int i, D.flt L, _])
     repeat' first
      | with_reducible refine st_ift ?_
      | (with_reducible refine st_join (ds := [.int i, .flt L]) ?_ ?_ ?_)
      | ((with_reducible apply st_some); exact hlen)
      | ((with_reducible apply st_some); exact h0)
      | ((with_reducible apply st_some); exact hr)
      | ((with_reducible apply st_some); exact r0)
      | ((with_reducible apply st_some); exact r1)
      | ((with_reducible apply st_some); exact hv1)
      | ((with_reducible apply st_some); exact hv2)
      | ((with_reducible apply st_some); exact (c13 _ _ _ _ _ _))
      | ((with_reducible apply st_some); exact c15)
      | ((with_reducible apply st_some); exact f1)
      | ((with_reducible apply st_some); exact hj)
      | ((with_reducible apply st_some); exact f3)
      | ((with_reducible apply st_some); exact hadd)
      | ((with_reducible apply st_t); exact rfl; exact rfl)
      | ((with_reducible apply st_some); exact rfl)
      | exact rfl
   ·cases b2
    ·show _ = some (0, [D.int j, D.flt v, _])
     repeat' first
      | with_reducible refine st_ift ?_
      | with_reducible refine st_iff ?_
      | (with_reducible refine st_join (ds := [.int j, .flt v]) ?_ ?_ ?_)
      | ((with_reducible apply st_some); exact hlen)
      | ((with_reducible apply st_some); exact h0)
      | ((with_reducible apply st_some); exact hr)
      | ((with_reducible apply st_some); exact r0)
      | ((with_reducible apply st_some); exact r1)
      | ((with_reducible apply st_some); exact hv1)
      | ((with_reducible apply st_some); exact hv2)
      | ((with_reducible apply st_some); exact (c13 _ _ _ _ _ _))
      | ((with_reducible apply st_some); exact c15)
      | ((with_reducible apply st_some); exact f1)
      | ((with_reducible apply st_some); exact hj)
      | ((with_reducible apply st_some); exact f2)
      | ((with_reducible apply st_some); exact hadd)
      | ((with_reducible apply st_t); exact rfl; exact rfl)
      | ((with_reducible apply st_some); exact rfl)
      | exact rfl
    ·show _ = some (0, [D.int i, D.flt L, _])
     repeat' first
      | with_reducible refine st_ift ?_
      | (with_reducible refine st_join (ds := [.int i, .flt L]) ?_ ?_ ?_)
      | ((with_reducible apply st_some); exact hlen)
      | ((with_reducible apply st_some); exact h0)
      | ((with_reducible apply st_some); exact hr)
      | ((with_reducible apply st_some); exact r0)
      | ((with_reducible apply st_some); exact r1)
      | ((with_reducible apply st_some); exact hv1)
      | ((with_reducible apply st_some); exact hv2)
      | ((with_reducible apply st_some); exact (c13 _ _ _ _ _ _))
      | ((with_reducible apply st_some); exact c15)
      | ((with_reducible apply st_some); exact f1)
      | ((with_reducible apply st_some); exact hj)
      | ((with_reducible apply st_some); exact f2)
      | ((with_reducible apply st_some); exact hadd)
      | ((with_reducible apply st_t); exact rfl; exact rfl)
      | ((with_reducible apply st_some); exact rfl)
      | exact rfl
theorem run433 {G : Told} (g413 : G 413 = F413) (g13 : G 13 = F13) (g15 : G 15 = F15) : Runs G F433 T433 := by
 intro ds rs h
 unfold F433 at h
 split at h
 case h_2 => cases h
 rename_i a b l
 obtain ⟨vs, ha, h⟩ := Option.bind_eq_some_iff.1 h
 obtain ⟨ts, hb, h⟩ := Option.bind_eq_some_iff.1 h
 rw [dV_inv ha, dT_inv hb]
 split at h
 case isFalse => cases h
 rename_i hc
 simp only [Option.some.injEq] at h
 subst h
 clear ha
 clear hb
 obtain ⟨hn, _⟩ := valid_len hc
 have hel := edg_len (ts := ts) hn
 refine ⟨100000, ?_⟩
 rw [eq433]
 unfold S433
 have c0 : gcall G none 413 [vl vs, tl ts] 1 = some [tl (etl (edgL ts vs.length))] := gcall_on g413 rfl (F413_m hc) rfl
 have hlen := len_tl (l := etl (edgL ts vs.length))
 rw [etl_len] at hlen
 have hit : iter (tbody 3 (S433L0 G (vl vs) (.bool l) [tl (etl (edgL ts vs.length))])) 100000 [.int (-1), .flt 0, .int 0] = some (0, [bsI (bstN (numL vs) (betL l) (edgL ts vs.length) (edgL ts vs.length).length), bsV (bstN (numL vs) (betL l) (edgL ts vs.length) (edgL ts vs.length).length), .int ((edgL ts vs.length).length : Int), .int ((edgL ts vs.length).length : Int), .int ((edgL ts vs.length).length : Int), .bool false]) := by
  refine iter_to (body := tbody 3 (S433L0 G (vl vs) (.bool l) [tl (etl (edgL ts vs.length))])) (n := (edgL ts vs.length).length) (f := 100000) (l := 0) (fun i => [bsI (bstN (numL vs) (betL l) (edgL ts vs.length) i), bsV (bstN (numL vs) (betL l) (edgL ts vs.length) i), .int (i : Int)]) (by omega) (fun i hi => ?_) ?_
  ·exact tb rfl (edge_step g13 g15 hn l hi _)
  ·refine tb rfl ?_
   have h0 : decide (((edgL ts vs.length).length : Int) < ((edgL ts vs.length).length : Int)) = false := by simp
   unfold S433L0;simp only [ev0, p_add, Nat.zero_add, h0, hlen]
 unfold bstP
 have hlt := fun j v => @bstN_lt (numL vs) (betL l) (edgL ts vs.length) (edgL ts vs.length).length j v
 generalize bstN (numL vs) (betL l) (edgL ts vs.length) (edgL ts vs.length).length = s at *
 cases s with
 | none =>
  have hit : iter (tbody 3 (S433L0 G (vl vs) (.bool l) [tl (etl (edgL ts vs.length))])) 100000 [.int (-1), .flt 0, .int 0] = some (0, [.int (-1), .flt 0, .int ((edgL ts vs.length).length : Int), .int ((edgL ts vs.length).length : Int), .int ((edgL ts vs.length).length : Int), .bool false]) := hit;have hz : decide ((-1 : Int) < 0) = true := by decide
  rw [bstR_none];simp only [ev0, j_0, List.length_cons, List.length_nil, Nat.zero_add, Nat.reduceAdd, if_true, c0, hit, hz, ← il_nil]
 | some s =>
  obtain ⟨j, v⟩ := s;have hit : iter (tbody 3 (S433L0 G (vl vs) (.bool l) [tl (etl (edgL ts vs.length))])) 100000 [.int (-1), .flt 0, .int 0] = some (0, [.int (j : Int), .flt v, .int ((edgL ts vs.length).length : Int), .int ((edgL ts vs.length).length : Int), .int ((edgL ts vs.length).length : Int), .bool false]) := hit;have hz : decide ((j : Int) < 0) = false := by simp
  obtain ⟨p, q, he, hpq, hne, hr⟩ := edg_get (hlt j v rfl);rw [bstR_some he];simp only [ev0, j_0, List.length_cons, List.length_nil, Nat.zero_add, Nat.reduceAdd, if_true, c0, hit, hz, hr]
theorem flip_step {G : Told} (g417 : G 417 = F417) {vs : List V3} {ts : List (List Int)} (hval : validP vs.length ts = true) {i : Nat} (hi : i < (edgL ts vs.length).length) (s : Option (Nat × Nat)) :
  S437L0 G (vl vs) (tl ts) [tl (etl (edgL ts vs.length))] [bsI s, bsV s, .int (i : Int)] = some (0, [bsI (bstS (numF vs ts) (betL true) (edgL ts vs.length) s i), bsV (bstS (numF vs ts) (betL true) (edgL ts vs.length) s i), .int ((i + 1 : Nat) : Int)]) := by
 obtain ⟨hn, _⟩ := valid_len hval
 have h0 : gev none (.icm .lss) [.int (i : Int), .int ((edgL ts vs.length).length : Int)] = some (.bool true) := by show some (D.bool (decide _)) = _;simpa using hi
 have hlen := len_tl (l := etl (edgL ts vs.length))
 rw [etl_len] at hlen
 have hel := edg_len (ts := ts) hn
 have hadd := add1n (i := i) (by omega)
 obtain ⟨p, q, he, hpq, hne, hr⟩ := edg_get hi
 have r0 : gev none .idx [il [p, q], .int 0] = some (.int p) := p_j0
 have r1 : gev none .idx [il [p, q], .int 1] = some (.int q) := p_j1
 have c1 : gcall G none 417 [vl vs, tl ts, .int p, .int q] 2 = some (if flipB ts p q = true then [.flt (gnP vs ts p q), .bool true] else [.flt 0, .bool false]) := gcall_on g417 rfl (F417_m (ok_of hval hpq hne)) (by split <;> rfl)
 unfold S437L0
 cases hfl : flipB ts p q with
 | false =>
  rw [bstS_none (by rw [he]; unfold numF; rw [hfl]; rfl)]
  rw [hfl, if_neg (by simp)] at c1
  generalize edgL ts vs.length = es at *;have f1 : True := trivial
  cases s with
  | none =>
   show _ = some (0, [D.int (-1), D.flt 0, _])
   repeat' first
    | with_reducible refine st_ift ?_
    | with_reducible refine st_iff ?_
    | (with_reducible refine st_join (ds := [.int (-1), .flt 0]) ?_ ?_ ?_)
    | ((with_reducible apply st_some); exact hlen)
    | ((with_reducible apply st_some); exact h0)
    | ((with_reducible apply st_some); exact hr)
    | ((with_reducible apply st_some); exact r0)
    | ((with_reducible apply st_some); exact r1)
    | ((with_reducible apply st_some); exact c1)
    | ((with_reducible apply st_some); exact hadd)
    | ((with_reducible apply st_f); exact rfl; exact rfl)
    | ((with_reducible apply st_some); exact rfl)
    | exact rfl
  | some s =>
   obtain ⟨j, v⟩ := s;show _ = some (0, [D.int j, D.flt v, _]);unfold bsI bsV
   repeat' first
    | with_reducible refine st_ift ?_
    | with_reducible refine st_iff ?_
    | (with_reducible refine st_join (ds := [.int j, .flt v]) ?_ ?_ ?_)
    | ((with_reducible apply st_some); exact hlen)
    | ((with_reducible apply st_some); exact h0)
    | ((with_reducible apply st_some); exact hr)
    | ((with_reducible apply st_some); exact r0)
    | ((with_reducible apply st_some); exact r1)
    | ((with_reducible apply st_some); exact c1)
    | ((with_reducible apply st_some); exact hadd)
    | ((with_reducible apply st_f); exact rfl; exact rfl)
    | ((with_reducible apply st_some); exact rfl)
    | exact rfl
 | true =>
 rw [bstS_some (x := gnP vs ts p q) (by rw [he]; unfold numF; rw [hfl]; rfl)]
 rw [hfl, if_pos rfl] at c1
 generalize edgL ts vs.length = es at *
 generalize gnP vs ts p q = L at *
 have f1 : gev none (.fcm .eql .f32) [.flt L, .flt L] = some (.bool (feq .f32 L L)) := rfl
 generalize feq .f32 L L = b at *
 cases b with
 | false =>
  cases s with
  | none =>
   show _ = some (0, [D.int (-1), D.flt 0, _])
   repeat' first
    | with_reducible refine st_ift ?_
    | with_reducible refine st_iff ?_
    | (with_reducible refine st_join (ds := [.int (-1), .flt 0]) ?_ ?_ ?_)
    | ((with_reducible apply st_some); exact hlen)
    | ((with_reducible apply st_some); exact h0)
    | ((with_reducible apply st_some); exact hr)
    | ((with_reducible apply st_some); exact r0)
    | ((with_reducible apply st_some); exact r1)
    | ((with_reducible apply st_some); exact c1)
    | ((with_reducible apply st_some); exact f1)
    | ((with_reducible apply st_some); exact hadd)
    | ((with_reducible apply st_f); exact rfl; exact rfl)
    | ((with_reducible apply st_some); exact rfl)
    | exact rfl
  | some s =>
   obtain ⟨j, v⟩ := s;show _ = some (0, [D.int j, D.flt v, _]);unfold bsI bsV
   repeat' first
    | with_reducible refine st_ift ?_
    | with_reducible refine st_iff ?_
    | (with_reducible refine st_join (ds := [.int j, .flt v]) ?_ ?_ ?_)
    | ((with_reducible apply st_some); exact hlen)
    | ((with_reducible apply st_some); exact h0)
    | ((with_reducible apply st_some); exact hr)
    | ((with_reducible apply st_some); exact r0)
    | ((with_reducible apply st_some); exact r1)
    | ((with_reducible apply st_some); exact c1)
    | ((with_reducible apply st_some); exact f1)
    | ((with_reducible apply st_some); exact hadd)
    | ((with_reducible apply st_f); exact rfl; exact rfl)
    | ((with_reducible apply st_some); exact rfl)
    | exact rfl
 | true =>
  cases s with
  | none =>
   show _ = some (0, [D.int i, D.flt L, _])
   repeat' first
    | with_reducible refine st_ift ?_
    | (with_reducible refine st_join (ds := [.int i, .flt L]) ?_ ?_ ?_)
    | ((with_reducible apply st_some); exact hlen)
    | ((with_reducible apply st_some); exact h0)
    | ((with_reducible apply st_some); exact hr)
    | ((with_reducible apply st_some); exact r0)
    | ((with_reducible apply st_some); exact r1)
    | ((with_reducible apply st_some); exact c1)
    | ((with_reducible apply st_some); exact f1)
    | ((with_reducible apply st_some); exact hadd)
    | ((with_reducible apply st_t); exact rfl; exact rfl)
    | ((with_reducible apply st_some); exact rfl)
    | exact rfl
  | some s =>
   obtain ⟨j, v⟩ := s;have hj := j_neg (j := j);have f2 : gev none (.fcm .gtr .f32) [.flt L, .flt v] = some (.bool (fgt .f32 L v)) := rfl;rw [show betO (betL true) (some (j, v)) L = fgt .f32 L v from rfl]
   generalize fgt .f32 L v = b2 at *
   cases b2
   ·show _ = some (0, [D.int j, D.flt v, _])
    repeat' first
     | with_reducible refine st_ift ?_
     | with_reducible refine st_iff ?_
     | (with_reducible refine st_join (ds := [.int j, .flt v]) ?_ ?_ ?_)
     | ((with_reducible apply st_some); exact hlen)
     | ((with_reducible apply st_some); exact h0)
     | ((with_reducible apply st_some); exact hr)
     | ((with_reducible apply st_some); exact r0)
     | ((with_reducible apply st_some); exact r1)
     | ((with_reducible apply st_some); exact c1)
     | ((with_reducible apply st_some); exact f1)
     | ((with_reducible apply st_some); exact hj)
     | ((with_reducible apply st_some); exact f2)
     | ((with_reducible apply st_some); exact hadd)
     | ((with_reducible apply st_t); exact rfl; exact rfl)
     | ((with_reducible apply st_some); exact rfl)
     | exact rfl
   ·show _ = some (0, [D.int i, D.flt L, _])
    repeat' first
     | with_reducible refine st_ift ?_
     | (with_reducible refine st_join (ds := [.int i, .flt L]) ?_ ?_ ?_)
     | ((with_reducible apply st_some); exact hlen)
     | ((with_reducible apply st_some); exact h0)
     | ((with_reducible apply st_some); exact hr)
     | ((with_reducible apply st_some); exact r0)
     | ((with_reducible apply st_some); exact r1)
     | ((with_reducible apply st_some); exact c1)
     | ((with_reducible apply st_some); exact f1)
     | ((with_reducible apply st_some); exact hj)
     | ((with_reducible apply st_some); exact f2)
     | ((with_reducible apply st_some); exact hadd)
     | ((with_reducible apply st_t); exact rfl; exact rfl)
     | ((with_reducible apply st_some); exact rfl)
     | exact rfl
theorem run437 {G : Told} (g413 : G 413 = F413) (g417 : G 417 = F417) : Runs G F437 T437 := by
 intro ds rs h
 unfold F437 at h
 split at h
 case h_2 => cases h
 rename_i a b
 obtain ⟨vs, ha, h⟩ := Option.bind_eq_some_iff.1 h
 obtain ⟨ts, hb, h⟩ := Option.bind_eq_some_iff.1 h
 rw [dV_inv ha, dT_inv hb]
 split at h
 case isFalse => cases h
 rename_i hc
 simp only [Option.some.injEq] at h
 subst h
 clear ha
 clear hb
 obtain ⟨hn, _⟩ := valid_len hc
 have hel := edg_len (ts := ts) hn
 refine ⟨100000, ?_⟩
 rw [eq437]
 unfold S437
 have c0 : gcall G none 413 [vl vs, tl ts] 1 = some [tl (etl (edgL ts vs.length))] := gcall_on g413 rfl (F413_m hc) rfl
 have hlen := len_tl (l := etl (edgL ts vs.length))
 rw [etl_len] at hlen
 have hit : iter (tbody 3 (S437L0 G (vl vs) (tl ts) [tl (etl (edgL ts vs.length))])) 100000 [.int (-1), .flt 0, .int 0] = some (0, [bsI (bstN (numF vs ts) (betL true) (edgL ts vs.length) (edgL ts vs.length).length), bsV (bstN (numF vs ts) (betL true) (edgL ts vs.length) (edgL ts vs.length).length), .int ((edgL ts vs.length).length : Int), .int ((edgL ts vs.length).length : Int), .int ((edgL ts vs.length).length : Int), .bool false]) := by
  refine iter_to (body := tbody 3 (S437L0 G (vl vs) (tl ts) [tl (etl (edgL ts vs.length))])) (n := (edgL ts vs.length).length) (f := 100000) (l := 0) (fun i => [bsI (bstN (numF vs ts) (betL true) (edgL ts vs.length) i), bsV (bstN (numF vs ts) (betL true) (edgL ts vs.length) i), .int (i : Int)]) (by omega) (fun i hi => ?_) ?_
  ·exact tb rfl (flip_step g417 hc hi _)
  ·refine tb rfl ?_
   have h0 : decide (((edgL ts vs.length).length : Int) < ((edgL ts vs.length).length : Int)) = false := by simp
   unfold S437L0;simp only [ev0, p_add, Nat.zero_add, h0, hlen]
 unfold bstP
 have hlt := fun j v => @bstN_lt (numF vs ts) (betL true) (edgL ts vs.length) (edgL ts vs.length).length j v
 generalize bstN (numF vs ts) (betL true) (edgL ts vs.length) (edgL ts vs.length).length = s at *
 cases s with
 | none =>
  have hit : iter (tbody 3 (S437L0 G (vl vs) (tl ts) [tl (etl (edgL ts vs.length))])) 100000 [.int (-1), .flt 0, .int 0] = some (0, [.int (-1), .flt 0, .int ((edgL ts vs.length).length : Int), .int ((edgL ts vs.length).length : Int), .int ((edgL ts vs.length).length : Int), .bool false]) := hit;have hz : decide ((-1 : Int) < 0) = true := by decide
  rw [bstR_none];simp only [ev0, j_0, List.length_cons, List.length_nil, Nat.zero_add, Nat.reduceAdd, if_true, c0, hit, hz, ← il_nil]
 | some s =>
  obtain ⟨j, v⟩ := s;have hit : iter (tbody 3 (S437L0 G (vl vs) (tl ts) [tl (etl (edgL ts vs.length))])) 100000 [.int (-1), .flt 0, .int 0] = some (0, [.int (j : Int), .flt v, .int ((edgL ts vs.length).length : Int), .int ((edgL ts vs.length).length : Int), .int ((edgL ts vs.length).length : Int), .bool false]) := hit;have hz : decide ((j : Int) < 0) = false := by simp
  obtain ⟨p, q, he, hpq, hne, hr⟩ := edg_get (hlt j v rfl);rw [bstR_some he];simp only [ev0, j_0, List.length_cons, List.length_nil, Nat.zero_add, Nat.reduceAdd, if_true, c0, hit, hz, hr]
attribute [local irreducible] tif tjoin fadd fmul fdiv i2f sameP wide eqV totL szM szP marksV marksT triP bstR bstP

end Vs
