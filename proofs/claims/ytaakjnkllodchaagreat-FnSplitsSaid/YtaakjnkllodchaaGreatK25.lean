/-
  Edges and ways of meshes: what the small functions compute.
-/
import Derived.Test.YtaakjnkllodchaaGreatKq3
set_option maxHeartbeats 4000000
namespace Vs
open Go Go.Sort
theorem w01 : IntKind.wrap .i64 (0 + 1) = 1 := by decide
theorem w12 : IntKind.wrap .i64 (1 + 1) = 2 := by decide
theorem w23 : IntKind.wrap .i64 (2 + 1) = 3 := by decide
theorem tm1 : (1 : Int).tmod 3 = 1 := by decide
theorem tm2 : (2 : Int).tmod 3 = 2 := by decide
theorem tm3 : (3 : Int).tmod 3 = 0 := by decide
theorem d03 : decide ((0 : Int) < 3) = true := by decide
theorem d13 : decide ((1 : Int) < 3) = true := by decide
theorem d23 : decide ((2 : Int) < 3) = true := by decide
theorem d33 : decide ((3 : Int) < 3) = false := by decide
noncomputable def F400 : List D → Option (List D)
 | [.int a, .int b] => some [.int (min a b), .int (max a b)]
 | _ => none
noncomputable def F453 : List D → Option (List D)
 | [.int a, .int b] => some [.int (min a b)]
 | _ => none
noncomputable def F210m : List D → Option (List D)
 | [.int a, .int b] => some [.int (max a b)]
 | _ => none
def cmpI (a b : Int) : Int := if a < b then -1 else if b < a then 1 else 0
noncomputable def F452 : List D → Option (List D)
 | [.int _] => some [.bool false]
 | _ => none
noncomputable def F451 : List D → Option (List D)
 | [.int a, .int b] => some [.int (cmpI a b)]
 | _ => none
noncomputable def F450 : List D → Option (List D)
 | [.lst [.int a, .int b], .lst [.int x, .int y]] => some [.int (cmpE (a, b) (x, y))]
 | _ => none
noncomputable def F449 : List D → Option (List D)
 | [.int a, .int b, .int x, .int y] => some [.int (cmpE (a, b) (x, y))]
 | _ => none
noncomputable def F407 : List D → Option (List D)
 | [.lst [.int x, .int y, .int z], .int p, .int q] => some [.bool (goesP [x, y, z] p q)]
 | _ => none
def thirdP (t : List Int) (p q : Int) : Int := t.getD 0 0 + t.getD 1 0 + t.getD 2 0 - p - q
def thirdB (x y z p q : Int) : Bool := decide (x ≠ y) && decide (y ≠ z) && decide (x ≠ z) && decide (p ≠ q) && hasB [x, y, z] p q && (decide (0 ≤ x) && decide (x < 64) && (decide (0 ≤ y) && decide (y < 64)) && (decide (0 ≤ z) && decide (z < 64)))
noncomputable def F408 : List D → Option (List D)
 | [.lst [.int x, .int y, .int z], .int p, .int q] => if thirdB x y z p q = true then some [.int (thirdP [x, y, z] p q)] else none
 | _ => none
def idxI (x y z p : Int) : Int := if p = x then 0 else if p = y then 1 else if p = z then 2 else -1
noncomputable def F442 : List D → Option (List D)
 | [.lst [.int x, .int y, .int z], .int p] => some [.int (idxI x y z p)]
 | _ => none
noncomputable def F441 : List D → Option (List D)
 | [.lst [.int x, .int y, .int z], .int p] => some [.bool ([x, y, z].contains p)]
 | _ => none
def T400 : T :=
(oo .imin [0, 1] <|
oo .imax [0, 1] <|
.out 0 [2, 3])
def S400 (_G : Told) (_fuel : Nat) (x0 x1 : D) : Option (Nat × List D) :=
 (gev none .imin [x0, x1]).bind fun x2 =>
 (gev none .imax [x0, x1]).bind fun x3 =>
 some (0, [x2, x3])
theorem eq400 {G fuel} (x0 x1) : run G fuel T400 [x0, x1] = S400 G fuel x0 x1 := by rw [run_eq]; kernel_rfl
def T453 : T :=
(oo (.icm .lss) [0, 1] <|
.ite 2
 (.out 0 [0])
 (.out 0 [1]))
def S453 (_G : Told) (_fuel : Nat) (x0 x1 : D) : Option (Nat × List D) :=
 (gev none (.icm .lss) [x0, x1]).bind fun x2 =>
 tif x2 (
  some (0, [x0])) (
  some (0, [x1]))
theorem eq453 {G fuel} (x0 x1) : run G fuel T453 [x0, x1] = S453 G fuel x0 x1 := by rw [run_eq]; kernel_rfl
def T210m : T :=
(oo (.icm .gtr) [0, 1] <|
.ite 2
 (.out 0 [0])
 (.out 0 [1]))
def S210m (_G : Told) (_fuel : Nat) (x0 x1 : D) : Option (Nat × List D) :=
 (gev none (.icm .gtr) [x0, x1]).bind fun x2 =>
 tif x2 (
  some (0, [x0])) (
  some (0, [x1]))
theorem eq210m {G fuel} (x0 x1) : run G fuel T210m [x0, x1] = S210m G fuel x0 x1 := by rw [run_eq]; kernel_rfl
def T452 : T :=
(oo (.icm .neq) [0, 0] <|
.out 0 [1])
def S452 (_G : Told) (_fuel : Nat) (x0 : D) : Option (Nat × List D) :=
 (gev none (.icm .neq) [x0, x0]).bind fun x1 =>
 some (0, [x1])
theorem eq452 {G fuel} (x0) : run G fuel T452 [x0] = S452 G fuel x0 := by rw [run_eq]; kernel_rfl
def T451 : T :=
(cc 452 [0] 1 <|
cc 452 [1] 1 <|
.ite 2
 (.ite 3
  (.out 0 [kI 0])
  (.out 0 [(.c (.int (-1)))]))
 (.ite 3
  (.out 0 [kI 1])
  (oo (.icm .lss) [0, 1] <|
  .ite 4
   (.out 0 [(.c (.int (-1)))])
   (oo (.icm .gtr) [0, 1] <|
   .ite 5
    (.out 0 [kI 1])
    (.out 0 [kI 0])))))
def S451 (G : Told) (_fuel : Nat) (x0 x1 : D) : Option (Nat × List D) :=
 (gcall G none 452 [x0] 1).bind fun e2 =>
 (gcall G none 452 [x1] 1).bind fun e3 =>
 tif (e2.getD 0 .undef) (
  tif (e3.getD 0 .undef) (
   some (0, [.int 0])) (
   some (0, [(.int (-1))]))) (
  tif (e3.getD 0 .undef) (
   some (0, [.int 1])) (
   (gev none (.icm .lss) [x0, x1]).bind fun x4 =>
   tif x4 (
    some (0, [(.int (-1))])) (
    (gev none (.icm .gtr) [x0, x1]).bind fun x5 =>
    tif x5 (
     some (0, [.int 1])) (
     some (0, [.int 0])))))
theorem eq451 {G fuel} (x0 x1) : run G fuel T451 [x0, x1] = S451 G fuel x0 x1 := by rw [run_eq]; kernel_rfl
def T450 : T :=
(oo .len [0] <|
.join 2
 (.loop [kI 0]
  (oo (.icm .lss) [3, 2] <|
  .ite 4
   (oo .idx [0, 3] <|
   oo .len [1] <|
   oo (.icm .geq) [3, 6] <|
   .ite 7
    (.out 2 [kI 1])
    (oo .idx [1, 3] <|
    cc 451 [5, 8] 1 <|
    oo (.icm .neq) [9, kI 0] <|
    .ite 10
     (.out 2 [9])
     (oo (.iar .add .i64) [3, kI 1] <|
     .out 0 [11])))
   (.out 1 [3, 4])))
(oo .len [0] <|
oo .len [1] <|
oo (.icm .lss) [5, 6] <|
.ite 7
 (.out 0 [(.c (.int (-1)))])
 (.out 0 [kI 0])))
def S450L0 (G : Told) (x0 : D) (x1 : D) (x2 : D) : List D → Option (Nat × List D) := fun e3 =>
   (gev none (.icm .lss) [e3.getD 0 .undef, x2]).bind fun x4 =>
   tif x4 (
    (gev none .idx [x0, e3.getD 0 .undef]).bind fun x5 =>
    (gev none .len [x1]).bind fun x6 =>
    (gev none (.icm .geq) [e3.getD 0 .undef, x6]).bind fun x7 =>
    tif x7 (
     some (2, [.int 1])) (
     (gev none .idx [x1, e3.getD 0 .undef]).bind fun x8 =>
     (gcall G none 451 [x5, x8] 1).bind fun e9 =>
     (gev none (.icm .neq) [e9.getD 0 .undef, .int 0]).bind fun x10 =>
     tif x10 (
      some (2, [e9.getD 0 .undef])) (
      (gev none (.iar .add .i64) [e3.getD 0 .undef, .int 1]).bind fun x11 =>
      some (0, [x11])))) (
    some (1, [e3.getD 0 .undef, x4]))
def S450 (G : Told) (fuel : Nat) (x0 x1 : D) : Option (Nat × List D) :=
 (gev none .len [x0]).bind fun x2 =>
 tjoin 2 (
  iter (tbody 1 (S450L0 G x0 x1 x2)) fuel [.int 0]) fun _e3 =>
 (gev none .len [x0]).bind fun x5 =>
 (gev none .len [x1]).bind fun x6 =>
 (gev none (.icm .lss) [x5, x6]).bind fun x7 =>
 tif x7 (
  some (0, [(.int (-1))])) (
  some (0, [.int 0]))
theorem eq450 {G fuel} (x0 x1) : run G fuel T450 [x0, x1] = S450 G fuel x0 x1 := by rw [run_eq]; kernel_rfl
def T449 : T :=
(oo .mklst [0, 1] <|
oo .mklst [2, 3] <|
cc 450 [4, 5] 1 <|
.out 0 [6])
def S449 (G : Told) (_fuel : Nat) (x0 x1 x2 x3 : D) : Option (Nat × List D) :=
 (gev none .mklst [x0, x1]).bind fun x4 =>
 (gev none .mklst [x2, x3]).bind fun x5 =>
 (gcall G none 450 [x4, x5] 1).bind fun e6 =>
 some (0, [e6.getD 0 .undef])
theorem eq449 {G fuel} (x0 x1 x2 x3) : run G fuel T449 [x0, x1, x2, x3] = S449 G fuel x0 x1 x2 x3 := by rw [run_eq]; kernel_rfl
def T407 : T :=
(.join 2
 (.loop [kI 0]
  (oo (.icm .lss) [3, kI 3] <|
  .ite 4
   (oo .idx [0, 3] <|
   oo (.icm .eql) [5, 1] <|
   oT 6 .id [0] <|
   oT 6 .id [3] <|
   oT 6 (.iar .add .i64) [8, kI 1] <|
   oT 6 (.idv .rem .i64) [9, kI 3] <|
   oT 6 .idx [7, 10] <|
   oT 6 .id [11] <|
   oT 6 .id [2] <|
   oT 6 (.icm .eql) [12, 13] <|
   oo .pick [6, 14, kN] <|
   .ite 15
    (.out 2 [kT])
    (oo (.iar .add .i64) [3, kI 1] <|
    .out 0 [16]))
   (.out 1 [3, 4])))
(.out 0 [kN]))
def S407L0 (_G : Told) (x0 : D) (x1 : D) (x2 : D) : List D → Option (Nat × List D) := fun e3 =>
   (gev none (.icm .lss) [e3.getD 0 .undef, .int 3]).bind fun x4 =>
   tif x4 (
    (gev none .idx [x0, e3.getD 0 .undef]).bind fun x5 =>
    (gev none (.icm .eql) [x5, x1]).bind fun x6 =>
    (gev (some (x6, true)) .id [x0]).bind fun x7 =>
    (gev (some (x6, true)) .id [e3.getD 0 .undef]).bind fun x8 =>
    (gev (some (x6, true)) (.iar .add .i64) [x8, .int 1]).bind fun x9 =>
    (gev (some (x6, true)) (.idv .rem .i64) [x9, .int 3]).bind fun x10 =>
    (gev (some (x6, true)) .idx [x7, x10]).bind fun x11 =>
    (gev (some (x6, true)) .id [x11]).bind fun x12 =>
    (gev (some (x6, true)) .id [x2]).bind fun x13 =>
    (gev (some (x6, true)) (.icm .eql) [x12, x13]).bind fun x14 =>
    (gev none .pick [x6, x14, .bool false]).bind fun x15 =>
    tif x15 (
     some (2, [.bool true])) (
     (gev none (.iar .add .i64) [e3.getD 0 .undef, .int 1]).bind fun x16 =>
     some (0, [x16]))) (
    some (1, [e3.getD 0 .undef, x4]))
def S407 (G : Told) (fuel : Nat) (x0 x1 x2 : D) : Option (Nat × List D) :=
 tjoin 2 (
  iter (tbody 1 (S407L0 G x0 x1 x2)) fuel [.int 0]) fun _e3 =>
 some (0, [.bool false])
theorem eq407 {G fuel} (x0 x1 x2) : run G fuel T407 [x0, x1, x2] = S407 G fuel x0 x1 x2 := by rw [run_eq]; kernel_rfl
def T408 : T :=
(oo .idx [0, kI 0] <|
oo .idx [0, kI 1] <|
oo (.iar .add .i64) [3, 4] <|
oo .idx [0, kI 2] <|
oo (.iar .add .i64) [5, 6] <|
oo (.iar .sub .i64) [7, 1] <|
oo (.iar .sub .i64) [8, 2] <|
.out 0 [9])
def S408 (_G : Told) (_fuel : Nat) (x0 x1 x2 : D) : Option (Nat × List D) :=
 (gev none .idx [x0, .int 0]).bind fun x3 =>
 (gev none .idx [x0, .int 1]).bind fun x4 =>
 (gev none (.iar .add .i64) [x3, x4]).bind fun x5 =>
 (gev none .idx [x0, .int 2]).bind fun x6 =>
 (gev none (.iar .add .i64) [x5, x6]).bind fun x7 =>
 (gev none (.iar .sub .i64) [x7, x1]).bind fun x8 =>
 (gev none (.iar .sub .i64) [x8, x2]).bind fun x9 =>
 some (0, [x9])
theorem eq408 {G fuel} (x0 x1 x2) : run G fuel T408 [x0, x1, x2] = S408 G fuel x0 x1 x2 := by rw [run_eq]; kernel_rfl
def T442 : T :=
(oo .len [0] <|
.join 2
 (.loop [kI 0]
  (oo (.icm .lss) [3, 2] <|
  .ite 4
   (oo .idx [0, 3] <|
   oo (.icm .eql) [1, 5] <|
   .ite 6
    (.out 2 [3])
    (oo (.iar .add .i64) [3, kI 1] <|
    .out 0 [7]))
   (.out 1 [3, 4])))
(.out 0 [(.c (.int (-1)))]))
def S442L0 (_G : Told) (x0 : D) (x1 : D) (x2 : D) : List D → Option (Nat × List D) := fun e3 =>
   (gev none (.icm .lss) [e3.getD 0 .undef, x2]).bind fun x4 =>
   tif x4 (
    (gev none .idx [x0, e3.getD 0 .undef]).bind fun x5 =>
    (gev none (.icm .eql) [x1, x5]).bind fun x6 =>
    tif x6 (
     some (2, [e3.getD 0 .undef])) (
     (gev none (.iar .add .i64) [e3.getD 0 .undef, .int 1]).bind fun x7 =>
     some (0, [x7]))) (
    some (1, [e3.getD 0 .undef, x4]))
def S442 (G : Told) (fuel : Nat) (x0 x1 : D) : Option (Nat × List D) :=
 (gev none .len [x0]).bind fun x2 =>
 tjoin 2 (
  iter (tbody 1 (S442L0 G x0 x1 x2)) fuel [.int 0]) fun _e3 =>
 some (0, [(.int (-1))])
theorem eq442 {G fuel} (x0 x1) : run G fuel T442 [x0, x1] = S442 G fuel x0 x1 := by rw [run_eq]; kernel_rfl
def T441 : T :=
(cc 442 [0, 1] 1 <|
oo (.icm .geq) [2, kI 0] <|
.out 0 [3])
def S441 (G : Told) (_fuel : Nat) (x0 x1 : D) : Option (Nat × List D) :=
 (gcall G none 442 [x0, x1] 1).bind fun e2 =>
 (gev none (.icm .geq) [e2.getD 0 .undef, .int 0]).bind fun x3 =>
 some (0, [x3])
theorem eq441 {G fuel} (x0 x1) : run G fuel T441 [x0, x1] = S441 G fuel x0 x1 := by rw [run_eq]; kernel_rfl
attribute [local irreducible] IntKind.wrap il tl vl

theorem run400 {G : Told} : Runs G F400 T400 := by
 intro ds rs h
 unfold F400 at h
 split at h
 case h_2 => cases h
 rename_i a b
 simp only [Option.some.injEq] at h
 subst h
 refine ⟨0, ?_⟩
 rw [eq400]
 unfold S400
 simp only [p_imin, p_imax, Option.bind_some]
theorem run453 {G : Told} : Runs G F453 T453 := by
 intro ds rs h
 unfold F453 at h
 split at h
 case h_2 => cases h
 rename_i a b
 simp only [Option.some.injEq] at h
 subst h
 refine ⟨0, ?_⟩
 rw [eq453]
 unfold S453
 by_cases c : a < b
 ·have d : decide (a < b) = true := by simpa using c
  simp only [ev0, d]
  congr 3
  congr 1
  omega
 ·have d : decide (a < b) = false := by simpa using c
  simp only [ev0, d]
  congr 3
  congr 1
  omega
theorem run210m {G : Told} : Runs G F210m T210m := by
 intro ds rs h
 unfold F210m at h
 split at h
 case h_2 => cases h
 rename_i a b
 simp only [Option.some.injEq] at h
 subst h
 refine ⟨0, ?_⟩
 rw [eq210m]
 unfold S210m
 by_cases c : a > b
 ·have d : decide (a > b) = true := by simpa using c
  simp only [ev0, d]
  congr 3
  congr 1
  omega
 ·have d : decide (a > b) = false := by simpa using c
  simp only [ev0, d]
  congr 3
  congr 1
  omega
theorem run452 {G : Told} : Runs G F452 T452 := by
 intro ds rs h
 unfold F452 at h
 split at h
 case h_2 => cases h
 rename_i a
 simp only [Option.some.injEq] at h
 subst h
 refine ⟨0, ?_⟩
 rw [eq452]
 unfold S452
 have d : (a != a) = false := by simp
 simp only [p_neq, Option.bind_some, d]
theorem run451 {G : Told} (g452 : G 452 = F452) : Runs G F451 T451 := by
 intro ds rs h
 unfold F451 at h
 split at h
 case h_2 => cases h
 rename_i a b
 simp only [Option.some.injEq] at h
 subst h
 refine ⟨0, ?_⟩
 rw [eq451]
 unfold S451
 have c : ∀ x : Int, gcall G none 452 [.int x] 1 = some [.bool false] := fun x => gcall_on g452 rfl rfl rfl
 unfold cmpI
 by_cases h1 : a < b
 ·have d : decide (a < b) = true := by simpa using h1
  rw [if_pos h1];simp only [ev0, c, d]
 ·have d : decide (a < b) = false := by simpa using h1
  rw [if_neg h1]
  by_cases h2 : b < a
  ·have e : decide (a > b) = true := by simpa using h2
   rw [if_pos h2];simp only [ev0, c, d, e]
  ·have e : decide (a > b) = false := by simpa using h2
   rw [if_neg h2];simp only [ev0, c, d, e]
theorem cmpE_I (a b x y : Int) : cmpE (a, b) (x, y) = if cmpI a x = 0 then cmpI b y else cmpI a x := by
 unfold cmpE cmpI
 simp only
 by_cases h1 : a < x
 ·rw [if_pos h1, if_pos h1]; rfl
 ·rw [if_neg h1, if_neg h1]
  by_cases h2 : x < a
  ·rw [if_pos h2, if_pos h2]; rfl
  ·rw [if_neg h2, if_neg h2]; rfl
theorem run450 {G : Told} (g451 : G 451 = F451) : Runs G F450 T450 := by
 intro ds rs h
 unfold F450 at h
 split at h
 case h_2 => cases h
 rename_i a b x y
 simp only [Option.some.injEq] at h
 subst h
 refine ⟨3, ?_⟩
 rw [eq450]
 unfold S450
 have c : ∀ x y : Int, gcall G none 451 [.int x, .int y] 1 = some [.int (cmpI x y)] := fun x y => gcall_on g451 rfl rfl rfl
 have l2 : ∀ x y : Int, gev none .len [.lst [.int x, .int y]] = some (.int 2) := fun x y => rfl
 have i0 : ∀ x y : Int, gev none .idx [.lst [.int x, .int y], .int 0] = some (.int x) := fun x y => rfl
 have i1 : ∀ x y : Int, gev none .idx [.lst [.int x, .int y], .int 1] = some (.int y) := fun x y => rfl
 have d02 : decide ((0 : Int) < 2) = true := by decide
 have d12 : decide ((1 : Int) < 2) = true := by decide
 have d22 : decide ((2 : Int) < 2) = false := by decide
 have e02 : decide ((0 : Int) ≥ 2) = false := by decide
 have e12 : decide ((1 : Int) ≥ 2) = false := by decide
 rw [cmpE_I]
 have r0 : tbody 1 (S450L0 G (.lst [.int a, .int b]) (.lst [.int x, .int y]) (.int 2)) [.int 0] = if cmpI a x = 0 then some (0, [.int 1]) else some (2, [.int (cmpI a x)]) := by
  refine tb rfl ?_;unfold S450L0
  by_cases h : cmpI a x = 0
  ·have d : (cmpI a x != 0) = false := by simpa using h
   rw [if_pos h];simp only [ev0, p_geq, p_add, c, l2, i0, d02, e02, d, w01]
  ·have d : (cmpI a x != 0) = true := by simpa using h
   rw [if_neg h];simp only [ev0, p_geq, p_add, c, l2, i0, d02, e02, d]
 have r1 : tbody 1 (S450L0 G (.lst [.int a, .int b]) (.lst [.int x, .int y]) (.int 2)) [.int 1] = if cmpI b y = 0 then some (0, [.int 2]) else some (2, [.int (cmpI b y)]) := by
  refine tb rfl ?_;unfold S450L0
  by_cases h : cmpI b y = 0
  ·have d : (cmpI b y != 0) = false := by simpa using h
   rw [if_pos h];simp only [ev0, p_geq, p_add, c, l2, i1, d12, e12, d, w12]
  ·have d : (cmpI b y != 0) = true := by simpa using h
   rw [if_neg h];simp only [ev0, p_geq, p_add, c, l2, i1, d12, e12, d]
 have r2 : tbody 1 (S450L0 G (.lst [.int a, .int b]) (.lst [.int x, .int y]) (.int 2)) [.int 2] = some (1, [.int 2, .bool false]) := by refine tb rfl ?_;unfold S450L0;simp only [ev0, p_add, d22]
 have hit : iter (tbody 1 (S450L0 G (.lst [.int a, .int b]) (.lst [.int x, .int y]) (.int 2))) 3 [.int 0] = if cmpI a x = 0 then if cmpI b y = 0 then some (0, [.int 2, .bool false]) else some (1, [.int (cmpI b y)]) else some (1, [.int (cmpI a x)]) := by
  by_cases h : cmpI a x = 0
  ·rw [if_pos h] at r0 ⊢
   refine iter_go r0 ?_
   by_cases h2 : cmpI b y = 0
   ·rw [if_pos h2] at r1 ⊢
    exact iter_go r1 (iter_end r2 rfl)
   ·rw [if_neg h2] at r1 ⊢
    exact iter_end r1 rfl
  ·rw [if_neg h] at r0 ⊢
   exact iter_end r0 rfl
 by_cases h : cmpI a x = 0
 ·rw [if_pos h] at hit ⊢
  by_cases h2 : cmpI b y = 0
  ·rw [if_pos h2] at hit
   rw [h2];simp only [ev0, j_0, List.length_cons, List.length_nil, Nat.zero_add, Nat.reduceAdd, if_true, l2, hit, d22]
  ·rw [if_neg h2] at hit
   simp only [j_1, p_lss, Option.bind_some, l2, hit]
 ·rw [if_neg h] at hit ⊢
  simp only [j_1, p_lss, Option.bind_some, l2, hit]
theorem run449 {G : Told} (g450 : G 450 = F450) : Runs G F449 T449 := by
 intro ds rs h
 unfold F449 at h
 split at h
 case h_2 => cases h
 rename_i a b x y
 simp only [Option.some.injEq] at h
 subst h
 refine ⟨0, ?_⟩
 rw [eq449]
 unfold S449
 have c : gcall G none 450 [.lst [.int a, .int b], .lst [.int x, .int y]] 1 = some [.int (cmpE (a, b) (x, y))] := gcall_on g450 rfl rfl rfl
 simp only [p_lst, Option.bind_some, List.getD_cons_zero, c]
theorem it3 {body : List D → Option (Nat × List D)} {b0 b1 b2 : Bool} {v w : List D} (r0 : body [.int 0] = if b0 = true then some (2, v) else some (0, [.int 1])) (r1 : body [.int 1] = if b1 = true then some (2, v) else some (0, [.int 2]))
  (r2 : body [.int 2] = if b2 = true then some (2, v) else some (0, [.int 3])) (r3 : body [.int 3] = some (1, w)) : iter body 4 [.int 0] = if (b0 || (b1 || b2)) = true then some (1, v) else some (0, w) := by
 cases b0
 ·refine iter_go r0 ?_
  cases b1
  ·refine iter_go r1 ?_
   cases b2
   ·exact iter_go r2 (iter_end r3 rfl)
   ·exact iter_end r2 rfl
  ·exact iter_end r1 rfl
 ·exact iter_end r0 rfl
theorem run407 {G : Told} : Runs G F407 T407 := by
 intro ds rs h
 unfold F407 at h
 split at h
 case h_2 => cases h
 rename_i x y z p q
 simp only [Option.some.injEq] at h
 subst h
 refine ⟨4, ?_⟩
 rw [eq407]
 unfold S407
 have i0 : gev none .idx [.lst [.int x, .int y, .int z], .int 0] = some (.int x) := rfl
 have i1 : gev none .idx [.lst [.int x, .int y, .int z], .int 1] = some (.int y) := rfl
 have i2 : gev none .idx [.lst [.int x, .int y, .int z], .int 2] = some (.int z) := rfl
 have r0 : tbody 1 (S407L0 G (.lst [.int x, .int y, .int z]) (.int p) (.int q)) [.int 0] = if (x == p && y == q) = true then some (2, [.bool true]) else some (0, [.int 1]) := by
  refine tb rfl ?_;unfold S407L0
  cases ha : x == p
  ·simp only [ev0, p_add, i0, w01, d03, ha, Bool.false_and, Bool.false_eq_true, if_false]
  ·cases hb : y == q
   ·simp only [ev0, p_add, p_rem3, i0, i1, w01, tm1, d03, ha, hb, Bool.true_and, Bool.false_eq_true, if_false]
   ·simp only [ev0, p_add, p_rem3, if_true, i0, i1, w01, tm1, d03, ha, hb, Bool.true_and]
 have r1 : tbody 1 (S407L0 G (.lst [.int x, .int y, .int z]) (.int p) (.int q)) [.int 1] = if (y == p && z == q) = true then some (2, [.bool true]) else some (0, [.int 2]) := by
  refine tb rfl ?_;unfold S407L0
  cases ha : y == p
  ·simp only [ev0, p_add, i1, w12, d13, ha, Bool.false_and, Bool.false_eq_true, if_false]
  ·cases hb : z == q
   ·simp only [ev0, p_add, p_rem3, i1, i2, w12, tm2, d13, ha, hb, Bool.true_and, Bool.false_eq_true, if_false]
   ·simp only [ev0, p_add, p_rem3, if_true, i1, i2, w12, tm2, d13, ha, hb, Bool.true_and]
 have r2 : tbody 1 (S407L0 G (.lst [.int x, .int y, .int z]) (.int p) (.int q)) [.int 2] = if (z == p && x == q) = true then some (2, [.bool true]) else some (0, [.int 3]) := by
  refine tb rfl ?_;unfold S407L0
  cases ha : z == p
  ·simp only [ev0, p_add, i2, w23, d23, ha, Bool.false_and, Bool.false_eq_true, if_false]
  ·cases hb : x == q
   ·simp only [ev0, p_add, p_rem3, i0, i2, w23, tm3, d23, ha, hb, Bool.true_and, Bool.false_eq_true, if_false]
   ·simp only [ev0, p_add, p_rem3, if_true, i0, i2, w23, tm3, d23, ha, hb, Bool.true_and]
 have r3 : tbody 1 (S407L0 G (.lst [.int x, .int y, .int z]) (.int p) (.int q)) [.int 3] = some (1, [.int 3, .bool false]) := by refine tb rfl ?_;unfold S407L0;simp only [ev0, p_add, d33]
 have hit := it3 r0 r1 r2 r3
 have hg : goesP [x, y, z] p q = ((x == p && y == q) || ((y == p && z == q) || (z == p && x == q))) := rfl
 rw [← hg] at hit
 cases hb : goesP [x, y, z] p q
 ·rw [hb] at hit
  simp only [Bool.false_eq_true, if_false] at hit;simp only [j_0, List.length_cons, List.length_nil, Nat.zero_add, Nat.reduceAdd, if_true, hit]
 ·rw [hb] at hit
  simp only [if_true] at hit;simp only [j_1, hit]
theorem thirdB_ok {x y z p q : Int} (h : thirdB x y z p q = true) : x ≠ y ∧ y ≠ z ∧ x ≠ z ∧ p ≠ q ∧ ((x = p ∧ y = q) ∨ (x = q ∧ y = p) ∨ (y = p ∧ z = q) ∨ (y = q ∧ z = p) ∨ (z = p ∧ x = q) ∨ (z = q ∧ x = p)) ∧ (0 ≤ x ∧ x < 64) ∧ (0 ≤ y ∧ y < 64) ∧ (0 ≤ z ∧ z < 64) := by
 unfold thirdB hasB at h
 simp only [Bool.and_eq_true, decide_eq_true_eq, List.contains_cons, List.contains_nil, Bool.or_false, Bool.or_eq_true, beq_iff_eq] at h
 omega
theorem run408 {G : Told} : Runs G F408 T408 := by
 intro ds rs h
 unfold F408 at h
 split at h
 case h_2 => cases h
 rename_i x y z p q
 split at h
 case isFalse => cases h
 rename_i hc
 simp only [Option.some.injEq] at h
 subst h
 have hb := thirdB_ok hc
 refine ⟨0, ?_⟩
 rw [eq408]
 unfold S408
 have i0 : gev none .idx [.lst [.int x, .int y, .int z], .int 0] = some (.int x) := rfl
 have i1 : gev none .idx [.lst [.int x, .int y, .int z], .int 1] = some (.int y) := rfl
 have i2 : gev none .idx [.lst [.int x, .int y, .int z], .int 2] = some (.int z) := rfl
 have e1 : IntKind.wrap .i64 (x + y) = x + y := wrap_id (by omega) (by omega)
 have e2 : IntKind.wrap .i64 (x + y + z) = x + y + z := wrap_id (by omega) (by omega)
 have e3 : IntKind.wrap .i64 (x + y + z - p) = x + y + z - p := wrap_id (by omega) (by omega)
 have e4 : IntKind.wrap .i64 (x + y + z - p - q) = x + y + z - p - q := wrap_id (by omega) (by omega)
 simp only [p_add, p_sub, Option.bind_some, i0, i1, i2, e1, e2, e3, e4]
 rfl
theorem run442 {G : Told} : Runs G F442 T442 := by
 intro ds rs h
 unfold F442 at h
 split at h
 case h_2 => cases h
 rename_i x y z p
 simp only [Option.some.injEq] at h
 subst h
 refine ⟨4, ?_⟩
 rw [eq442]
 unfold S442
 have i0 : gev none .idx [.lst [.int x, .int y, .int z], .int 0] = some (.int x) := rfl
 have i1 : gev none .idx [.lst [.int x, .int y, .int z], .int 1] = some (.int y) := rfl
 have i2 : gev none .idx [.lst [.int x, .int y, .int z], .int 2] = some (.int z) := rfl
 have l3 : gev none .len [.lst [.int x, .int y, .int z]] = some (.int 3) := rfl
 have r0 : tbody 1 (S442L0 G (.lst [.int x, .int y, .int z]) (.int p) (.int 3)) [.int 0] = if (p == x) = true then some (2, [.int 0]) else some (0, [.int 1]) := by
  refine tb rfl ?_;unfold S442L0
  cases ha : p == x
  ·simp only [ev0, p_add, i0, w01, d03, ha, Bool.false_eq_true, if_false]
  ·simp only [ev0, p_add, if_true, i0, w01, d03, ha]
 have r1 : tbody 1 (S442L0 G (.lst [.int x, .int y, .int z]) (.int p) (.int 3)) [.int 1] = if (p == y) = true then some (2, [.int 1]) else some (0, [.int 2]) := by
  refine tb rfl ?_;unfold S442L0
  cases ha : p == y
  ·simp only [ev0, p_add, i1, w12, d13, ha, Bool.false_eq_true, if_false]
  ·simp only [ev0, p_add, if_true, i1, w12, d13, ha]
 have r2 : tbody 1 (S442L0 G (.lst [.int x, .int y, .int z]) (.int p) (.int 3)) [.int 2] = if (p == z) = true then some (2, [.int 2]) else some (0, [.int 3]) := by
  refine tb rfl ?_;unfold S442L0
  cases ha : p == z
  ·simp only [ev0, p_add, i2, w23, d23, ha, Bool.false_eq_true, if_false]
  ·simp only [ev0, p_add, if_true, i2, w23, d23, ha]
 have r3 : tbody 1 (S442L0 G (.lst [.int x, .int y, .int z]) (.int p) (.int 3)) [.int 3] = some (1, [.int 3, .bool false]) := by refine tb rfl ?_;unfold S442L0;simp only [ev0, p_add, d33]
 unfold idxI
 by_cases c0 : p = x
 ·rw [if_pos c0]
  rw [if_pos (by simpa using c0)] at r0
  have hit : iter (tbody 1 (S442L0 G (.lst [.int x, .int y, .int z]) (.int p) (.int 3))) 4 [.int 0] = some (1, [.int 0]) := iter_end r0 rfl;simp only [j_1, Option.bind_some, l3, hit]
 ·rw [if_neg c0]
  rw [if_neg (by simpa using c0)] at r0
  by_cases c1 : p = y
  ·rw [if_pos c1]
   rw [if_pos (by simpa using c1)] at r1
   have hit : iter (tbody 1 (S442L0 G (.lst [.int x, .int y, .int z]) (.int p) (.int 3))) 4 [.int 0] = some (1, [.int 1]) := iter_go r0 (iter_end r1 rfl);simp only [j_1, Option.bind_some, l3, hit]
  ·rw [if_neg c1]
   rw [if_neg (by simpa using c1)] at r1
   by_cases c2 : p = z
   ·rw [if_pos c2]
    rw [if_pos (by simpa using c2)] at r2
    have hit : iter (tbody 1 (S442L0 G (.lst [.int x, .int y, .int z]) (.int p) (.int 3))) 4 [.int 0] = some (1, [.int 2]) := iter_go r0 (iter_go r1 (iter_end r2 rfl));simp only [j_1, Option.bind_some, l3, hit]
   ·rw [if_neg c2]
    rw [if_neg (by simpa using c2)] at r2
    have hit : iter (tbody 1 (S442L0 G (.lst [.int x, .int y, .int z]) (.int p) (.int 3))) 4 [.int 0] = some (0, [.int 3, .bool false]) := iter_go r0 (iter_go r1 (iter_go r2 (iter_end r3 rfl)));simp only [j_0, Option.bind_some, List.length_cons, List.length_nil, Nat.zero_add, Nat.reduceAdd, if_true, l3, hit]
theorem run441 {G : Told} (g442 : G 442 = F442) : Runs G F441 T441 := by
 intro ds rs h
 unfold F441 at h
 split at h
 case h_2 => cases h
 rename_i x y z p
 simp only [Option.some.injEq] at h
 subst h
 refine ⟨0, ?_⟩
 rw [eq441]
 unfold S441
 have c : gcall G none 442 [.lst [.int x, .int y, .int z], .int p] 1 = some [.int (idxI x y z p)] := gcall_on g442 rfl rfl rfl
 have e : decide (idxI x y z p ≥ 0) = [x, y, z].contains p := by
  rw [Bool.eq_iff_iff];simp only [decide_eq_true_eq, List.contains_cons, List.contains_nil, Bool.or_false, Bool.or_eq_true, beq_iff_eq];unfold idxI;split
  ·simp [*]
  ·split
   ·simp [*]
   ·split
    ·simp [*]
    ·simp [*]
 simp only [p_geq, Option.bind_some, List.getD_cons_zero, c, e]
end Vs
