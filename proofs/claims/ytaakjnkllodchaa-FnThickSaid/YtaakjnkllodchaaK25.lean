/-
  Edges and ways of meshes: what the small functions compute.
-/
import Derived.Test.YtaakjnkllodchaaKq3
set_option maxHeartbeats 4000000
namespace Vs
open Go Go.Sort
theorem w01 : IntKind.wrap .i64 (0 + 1) = 1 := by decide
theorem w12 : IntKind.wrap .i64 (1 + 1) = 2 := by decide
theorem w23 : IntKind.wrap .i64 (2 + 1) = 3 := by decide
theorem tm1 : (1 : Int).tmod 3 = 1 := by decide
theorem tm2 : (2 : Int).tmod 3 = 2 := by decide
theorem tm3 : (3 : Int).tmod 3 = 0 := by decide
theorem d03 : decide ((0 : Int) < 3) = true := by decide
theorem d13 : decide ((1 : Int) < 3) = true := by decide
theorem d23 : decide ((2 : Int) < 3) = true := by decide
theorem d33 : decide ((3 : Int) < 3) = false := by decide
noncomputable def F453 : List D → Option (List D)
 | [.int a, .int b] => some [.int (min a b)]
 | _ => none
noncomputable def F210m : List D → Option (List D)
 | [.int a, .int b] => some [.int (max a b)]
 | _ => none
def T453 : T :=
(oo (.icm .lss) [0, 1] <|
.ite 2
 (.out 0 [0])
 (.out 0 [1]))
def S453 (_G : Told) (_fuel : Nat) (x0 x1 : D) : Option (Nat × List D) :=
 (gev none (.icm .lss) [x0, x1]).bind fun x2 =>
 tif x2 (
  some (0, [x0])) (
  some (0, [x1]))
theorem eq453 {G fuel} (x0 x1) : run G fuel T453 [x0, x1] = S453 G fuel x0 x1 := by rw [run_eq]; kernel_rfl
def T210m : T :=
(oo (.icm .gtr) [0, 1] <|
.ite 2
 (.out 0 [0])
 (.out 0 [1]))
def S210m (_G : Told) (_fuel : Nat) (x0 x1 : D) : Option (Nat × List D) :=
 (gev none (.icm .gtr) [x0, x1]).bind fun x2 =>
 tif x2 (
  some (0, [x0])) (
  some (0, [x1]))
theorem eq210m {G fuel} (x0 x1) : run G fuel T210m [x0, x1] = S210m G fuel x0 x1 := by rw [run_eq]; kernel_rfl
attribute [local irreducible] IntKind.wrap il tl vl

theorem run453 {G : Told} : Runs G F453 T453 := by
 intro ds rs h
 unfold F453 at h
 split at h
 case h_2 => cases h
 rename_i a b
 simp only [Option.some.injEq] at h
 subst h
 refine ⟨0, ?_⟩
 rw [eq453]
 unfold S453
 by_cases c : a < b
 ·have d : decide (a < b) = true := by simpa using c
  simp only [ev0, d]
  congr 3
  congr 1
  omega
 ·have d : decide (a < b) = false := by simpa using c
  simp only [ev0, d]
  congr 3
  congr 1
  omega
theorem run210m {G : Told} : Runs G F210m T210m := by
 intro ds rs h
 unfold F210m at h
 split at h
 case h_2 => cases h
 rename_i a b
 simp only [Option.some.injEq] at h
 subst h
 refine ⟨0, ?_⟩
 rw [eq210m]
 unfold S210m
 by_cases c : a > b
 ·have d : decide (a > b) = true := by simpa using c
  simp only [ev0, d]
  congr 3
  congr 1
  omega
 ·have d : decide (a > b) = false := by simpa using c
  simp only [ev0, d]
  congr 3
  congr 1
  omega
end Vs
