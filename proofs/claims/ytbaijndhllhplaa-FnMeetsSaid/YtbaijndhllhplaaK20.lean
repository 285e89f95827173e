/-
  Sines of turns: what the functions compute.
-/
import Derived.Test.YtbaijndhllhplaaMf5
import Derived.Test.YtbaijndhllhplaaD
import Derived.Test.YtbaijndhllhplaaK3
import Derived.Test.YtbaijndhllhplaaK8
set_option maxHeartbeats 4000000
namespace Vs
open Go
def fracO (y : Nat) : Option Nat := (f2i .f64 .i64 y).map fun n => if flt .f64 (fsub .f64 y (i2f .f64 n)) 0 = true then fadd .f64 (fsub .f64 y (i2f .f64 n)) 4607182418800017408 else fsub .f64 y (i2f .f64 n)
def pgo (u : Nat) : Nat → Nat → Nat
 | 0, p => p
 | k + 1, p => pgo u k (fsub .f64 4607182418800017408 (fdiv .f64 (fmul .f64 u p) (i2f .f64 ((2 * (k + 1) * (2 * (k + 1) + 1) : Nat) : Int))))
def fold1 (f : Nat) : Nat := if fge .f64 f 4602678819172646912 = true then fsub .f64 f 4602678819172646912 else f
def fold2 (f : Nat) : Nat := if fgt .f64 f 4598175219545276416 = true then fsub .f64 4602678819172646912 f else f
def sinZ (f : Nat) : Nat := fmul .f64 (fold2 (fold1 f)) 4618760256179416344
def sinF (f : Nat) : Nat :=
 if fge .f64 f 4602678819172646912 = true then fneg .f64 (fmul .f64 (sinZ f) (pgo (fmul .f64 (sinZ f) (sinZ f)) 8 4607182418800017408))
 else fmul .f64 (sinZ f) (pgo (fmul .f64 (sinZ f) (sinZ f)) 8 4607182418800017408)
def absB (y : Nat) : Option Nat := if isnan .f64 y = true then none else (ibits .andNot .u64 (y : Int) 9223372036854775808).map fun n => canon .f64 n.toNat
def swOk (y : Nat) : Bool := feq .f64 (fsub .f64 y y) 0 && !fge .f64 y 4841369599423283200 && !fle .f64 y 14064741636278059008
def sOk (x : Nat) : Bool := finP x && swOk (wide x) && ((absB (wide x)).map fun a => fge .f64 a 4841369599423283200) == some false
def sineO (x : Nat) : Option Nat := (fracO (wide x)).bind fun f => f2f .f64 .f32 (sinF f)
def F331 : List D → Option (List D) := fun _ => none
def F332 : List D → Option (List D) | [.flt y] => (absB y).map fun a => [.flt a] | _ => none
def F476 : List D → Option (List D) | [.flt y] => (fracO y).map fun f => [.flt (sinF f)] | _ => none
def F477 : List D → Option (List D) | [.flt y] => (fracO y).map fun f => [.flt f] | _ => none
def F474 : List D → Option (List D) | [.flt x] => if sOk x = true then (sineO x).map fun z => [.flt z] else none | _ => none
def T331 : T :=
(oo (.b2f .f64) [kI 9221120237041090561] <|
.out 0 [0])
def T332 : T :=
(oo (.f2b .f64) [0] <|
oo (.ibt .andNot .u64) [1, kI 9223372036854775808] <|
oo (.b2f .f64) [2] <|
.out 0 [3])
def S332 (_G : Told) (_fuel : Nat) (x0 : D) : Option (Nat × List D) :=
 (gev none (.f2b .f64) [x0]).bind fun x1 =>
 (gev none (.ibt .andNot .u64) [x1, .int 9223372036854775808]).bind fun x2 =>
 (gev none (.b2f .f64) [x2]).bind fun x3 =>
 some (0, [x3])
theorem eq332 {G fuel} (x0) : run G fuel T332 [x0] = S332 G fuel x0 := by rw [run_eq]; kernel_rfl
def T476 : T :=
(cc 477 [0] 1 <|
oo (.fcm .geq .f64) [1, kF 4602678819172646912] <|
.join 1
 (.ite 2
  (oo (.far .sub .f64) [1, kF 4602678819172646912] <|
  .out 0 [3])
  (.out 0 [1]))
(oo (.fcm .gtr .f64) [3, kF 4598175219545276416] <|
.join 1
 (.ite 4
  (oo (.far .sub .f64) [kF 4602678819172646912, 3] <|
  .out 0 [5])
  (.out 0 [3]))
(oo (.far .mul .f64) [5, kF 4618760256179416344] <|
oo (.far .mul .f64) [6, 6] <|
.join 4
 (.loop [kF 4607182418800017408, kF 4620693217682128896]
  (oo (.fcm .geq .f64) [9, kF 4607182418800017408] <|
  .ite 10
   (oo (.far .mul .f64) [7, 8] <|
   oo (.far .mul .f64) [kF 4611686018427387904, 9] <|
   oo (.far .mul .f64) [kF 4611686018427387904, 9] <|
   oo (.far .add .f64) [13, kF 4607182418800017408] <|
   oo (.far .mul .f64) [12, 14] <|
   oo (.far .quo .f64) [11, 15] <|
   oo (.far .sub .f64) [kF 4607182418800017408, 16] <|
   oo (.far .sub .f64) [9, kF 4607182418800017408] <|
   .out 0 [17, 18])
   (.out 1 [8, 9, 9, 10])))
(.ite 2
 (oo (.far .mul .f64) [6, 8] <|
 oo (.fneg .f64) [12] <|
 .out 0 [13])
 (oo (.far .mul .f64) [6, 8] <|
 .out 0 [12])))))
def S476L0 (_G : Told) (x7 : D) : List D → Option (Nat × List D) := fun e8 =>
   (gev none (.fcm .geq .f64) [e8.getD 1 .undef, .flt 4607182418800017408]).bind fun x10 =>
   tif x10 (
    (gev none (.far .mul .f64) [x7, e8.getD 0 .undef]).bind fun x11 =>
    (gev none (.far .mul .f64) [.flt 4611686018427387904, e8.getD 1 .undef]).bind fun x12 =>
    (gev none (.far .mul .f64) [.flt 4611686018427387904, e8.getD 1 .undef]).bind fun x13 =>
    (gev none (.far .add .f64) [x13, .flt 4607182418800017408]).bind fun x14 =>
    (gev none (.far .mul .f64) [x12, x14]).bind fun x15 =>
    (gev none (.far .quo .f64) [x11, x15]).bind fun x16 =>
    (gev none (.far .sub .f64) [.flt 4607182418800017408, x16]).bind fun x17 =>
    (gev none (.far .sub .f64) [e8.getD 1 .undef, .flt 4607182418800017408]).bind fun x18 =>
    some (0, [x17, x18])) (
    some (1, [e8.getD 0 .undef, e8.getD 1 .undef, e8.getD 1 .undef, x10]))
def S476 (G : Told) (fuel : Nat) (x0 : D) : Option (Nat × List D) :=
 (gcall G none 477 [x0] 1).bind fun e1 =>
 (gev none (.fcm .geq .f64) [e1.getD 0 .undef, .flt 4602678819172646912]).bind fun x2 =>
 tjoin 1 (
  tif x2 (
   (gev none (.far .sub .f64) [e1.getD 0 .undef, .flt 4602678819172646912]).bind fun x3 =>
   some (0, [x3])) (
   some (0, [e1.getD 0 .undef]))) fun e3 =>
 (gev none (.fcm .gtr .f64) [e3.getD 0 .undef, .flt 4598175219545276416]).bind fun x4 =>
 tjoin 1 (
  tif x4 (
   (gev none (.far .sub .f64) [.flt 4602678819172646912, e3.getD 0 .undef]).bind fun x5 =>
   some (0, [x5])) (
   some (0, [e3.getD 0 .undef]))) fun e5 =>
 (gev none (.far .mul .f64) [e5.getD 0 .undef, .flt 4618760256179416344]).bind fun x6 =>
 (gev none (.far .mul .f64) [x6, x6]).bind fun x7 =>
 tjoin 4 (
  iter (tbody 2 (S476L0 G x7)) fuel [.flt 4607182418800017408, .flt 4620693217682128896]) fun e8 =>
 tif x2 (
  (gev none (.far .mul .f64) [x6, e8.getD 0 .undef]).bind fun x12 =>
  (gev none (.fneg .f64) [x12]).bind fun x13 =>
  some (0, [x13])) (
  (gev none (.far .mul .f64) [x6, e8.getD 0 .undef]).bind fun x12 =>
  some (0, [x12]))
theorem eq476 {G fuel} (x0) : run G fuel T476 [x0] = S476 G fuel x0 := by rw [run_eq]; kernel_rfl
def T477 : T :=
(oo (.f2i .f64 .i64) [0] <|
oo (.i2f .f64) [1] <|
oo (.far .sub .f64) [0, 2] <|
oo (.fcm .lss .f64) [3, kF 0] <|
.join 1
 (.ite 4
  (oo (.far .add .f64) [3, kF 4607182418800017408] <|
  .out 0 [5])
  (.out 0 [3]))
(.out 0 [5]))
def S477 (_G : Told) (_fuel : Nat) (x0 : D) : Option (Nat × List D) :=
 (gev none (.f2i .f64 .i64) [x0]).bind fun x1 =>
 (gev none (.i2f .f64) [x1]).bind fun x2 =>
 (gev none (.far .sub .f64) [x0, x2]).bind fun x3 =>
 (gev none (.fcm .lss .f64) [x3, .flt 0]).bind fun x4 =>
 tjoin 1 (
  tif x4 (
   (gev none (.far .add .f64) [x3, .flt 4607182418800017408]).bind fun x5 =>
   some (0, [x5])) (
   some (0, [x3]))) fun e5 =>
 some (0, [e5.getD 0 .undef])
theorem eq477 {G fuel} (x0) : run G fuel T477 [x0] = S477 G fuel x0 := by rw [run_eq]; kernel_rfl
def T474 : T :=
(cc 1 [0] 1 <|
oo .bnot [1] <|
.ite 2
 (cc 331 [] 1 <|
 oo (.f2f .f64 .f32) [3] <|
 .out 0 [4])
 (oo (.f2f .f32 .f64) [0] <|
 cc 332 [3] 1 <|
 oo (.fcm .geq .f64) [4, kF 4841369599423283200] <|
 .ite 5
  (.out 0 [kF 0])
  (oo (.f2f .f32 .f64) [0] <|
  cc 476 [6] 1 <|
  oo (.f2f .f64 .f32) [7] <|
  .out 0 [8])))
def S474 (G : Told) (_fuel : Nat) (x0 : D) : Option (Nat × List D) :=
 (gcall G none 1 [x0] 1).bind fun e1 =>
 (gev none .bnot [e1.getD 0 .undef]).bind fun x2 =>
 tif x2 (
  (gcall G none 331 [] 1).bind fun e3 =>
  (gev none (.f2f .f64 .f32) [e3.getD 0 .undef]).bind fun x4 =>
  some (0, [x4])) (
  (gev none (.f2f .f32 .f64) [x0]).bind fun x3 =>
  (gcall G none 332 [x3] 1).bind fun e4 =>
  (gev none (.fcm .geq .f64) [e4.getD 0 .undef, .flt 4841369599423283200]).bind fun x5 =>
  tif x5 (
   some (0, [.flt 0])) (
   (gev none (.f2f .f32 .f64) [x0]).bind fun x6 =>
   (gcall G none 476 [x6] 1).bind fun e7 =>
   (gev none (.f2f .f64 .f32) [e7.getD 0 .undef]).bind fun x8 =>
   some (0, [x8])))
theorem eq474 {G fuel} (x0) : run G fuel T474 [x0] = S474 G fuel x0 := by rw [run_eq]; kernel_rfl
theorem sq8 : ∀ n, n < 8 → fge .f64 (i2f .f64 ((n + 1 : Nat) : Int)) 4607182418800017408 = true ∧ fsub .f64 (i2f .f64 ((n + 1 : Nat) : Int)) 4607182418800017408 = i2f .f64 (n : Int) ∧
  fmul .f64 (fmul .f64 4611686018427387904 (i2f .f64 ((n + 1 : Nat) : Int))) (fadd .f64 (fmul .f64 4611686018427387904 (i2f .f64 ((n + 1 : Nat) : Int))) 4607182418800017408) = i2f .f64 ((2 * (n + 1) * (2 * (n + 1) + 1) : Nat) : Int) := by decide +kernel
theorem sq0 : fge .f64 (i2f .f64 0) 4607182418800017408 = false := by decide +kernel
theorem sq88 : i2f .f64 8 = 4620693217682128896 := by decide +kernel
attribute [local irreducible] fadd fsub fmul fdiv fneg finP overP feq flt fle fgt fge i2f f2i wide f2f ibits canon

theorem run331 {G : Told} : Runs G F331 T331 := by intro ds rs h; cases h
theorem f2i_ev {y : Nat} {n : Int} (h : f2i .f64 .i64 y = some n) : gev none (.f2i .f64 .i64) [.flt y] = some (.int n) := by
 show (f2i .f64 .i64 y).map D.int = _
 rw [h]
 rfl
theorem run332 {G : Told} : Runs G F332 T332 := by
 intro ds rs h
 unfold F332 at h
 split at h
 case h_2 => cases h
 rename_i y
 obtain ⟨z, hz, rfl⟩ := map_some_eq h
 unfold absB at hz
 split at hz
 case isTrue => cases hz
 rename_i hnan
 have c0 : gev none (.f2b .f64) [.flt y] = some (.int y) := by
  show (if isnan .f64 y = true then none else some (D.int y)) = _
  rw [if_neg hnan]
 obtain ⟨m, hm, rfl⟩ := Option.map_eq_some_iff.1 hz
 refine ⟨0, ?_⟩
 rw [eq332]
 unfold S332
 have c1 : gev none (.ibt .andNot .u64) [.int y, .int 9223372036854775808] = some (.int m) := by show (ibits .andNot .u64 (y : Int) 9223372036854775808).map D.int = _;rw [hm];rfl
 repeat' first
  | with_reducible refine st_ift ?_
  | with_reducible refine st_iff ?_
  | ((with_reducible apply st_some); exact c0)
  | ((with_reducible apply st_some); exact c1)
  | ((with_reducible apply st_callt); assumption; exact rfl; exact rfl; assumption)
  | ((with_reducible apply st_callf); assumption; exact rfl; exact rfl; assumption)
  | ((with_reducible apply st_call); assumption; exact rfl; exact rfl; exact rfl)
  | ((with_reducible apply st_wide); exact rfl; exact rfl)
  | ((with_reducible apply st_skip); exact rfl)
  | ((with_reducible apply st_t); exact rfl; exact rfl)
  | ((with_reducible apply st_f); exact rfl; exact rfl)
  | ((with_reducible apply st_t); exact rfl; assumption)
  | ((with_reducible apply st_f); exact rfl; assumption)
  | ((with_reducible apply st_some); exact rfl)
  | exact rfl
theorem run477 {G : Told} : Runs G F477 T477 := by
 intro ds rs h
 unfold F477 fracO at h
 split at h
 case h_2 => cases h
 rename_i y
 obtain ⟨z, hz, rfl⟩ := map_some_eq h
 obtain ⟨n, hn, rfl⟩ := Option.map_eq_some_iff.1 hz
 have c1 := f2i_ev hn
 refine ⟨0, ?_⟩
 rw [eq477]
 unfold S477
 cases hf : flt .f64 (fsub .f64 y (i2f .f64 n)) 0
 ·rw [if_neg (by simp)]
  repeat' first
   | with_reducible refine st_ift ?_
   | with_reducible refine st_iff ?_
   | ((with_reducible apply st_some); exact c1)
   | ((with_reducible apply st_join); exact rfl; exact rfl)
   | ((with_reducible apply st_callt); assumption; exact rfl; exact rfl; assumption)
   | ((with_reducible apply st_callf); assumption; exact rfl; exact rfl; assumption)
   | ((with_reducible apply st_call); assumption; exact rfl; exact rfl; exact rfl)
   | ((with_reducible apply st_wide); exact rfl; exact rfl)
   | ((with_reducible apply st_skip); exact rfl)
   | ((with_reducible apply st_t); exact rfl; exact rfl)
   | ((with_reducible apply st_f); exact rfl; exact rfl)
   | ((with_reducible apply st_t); exact rfl; assumption)
   | ((with_reducible apply st_f); exact rfl; assumption)
   | ((with_reducible apply st_some); exact rfl)
   | exact rfl
 ·rw [if_pos rfl]
  repeat' first
   | with_reducible refine st_ift ?_
   | with_reducible refine st_iff ?_
   | ((with_reducible apply st_some); exact c1)
   | ((with_reducible apply st_join); exact rfl; exact rfl)
   | ((with_reducible apply st_callt); assumption; exact rfl; exact rfl; assumption)
   | ((with_reducible apply st_callf); assumption; exact rfl; exact rfl; assumption)
   | ((with_reducible apply st_call); assumption; exact rfl; exact rfl; exact rfl)
   | ((with_reducible apply st_wide); exact rfl; exact rfl)
   | ((with_reducible apply st_skip); exact rfl)
   | ((with_reducible apply st_t); exact rfl; exact rfl)
   | ((with_reducible apply st_f); exact rfl; exact rfl)
   | ((with_reducible apply st_t); exact rfl; assumption)
   | ((with_reducible apply st_f); exact rfl; assumption)
   | ((with_reducible apply st_some); exact rfl)
   | exact rfl
theorem go476 {G : Told} (u : Nat) : ∀ n p, n ≤ 8 → iter (tbody 2 (S476L0 G (.flt u))) (n + 1) [.flt p, .flt (i2f .f64 n)] = some (0, [.flt (pgo u n p), .flt (i2f .f64 0), .flt (i2f .f64 0), .bool false])
 | 0, p, _ => by
  have c1 : gev none (.fcm .geq .f64) [.flt (i2f .f64 0), .flt 4607182418800017408] = some (.bool false) := by show some (D.bool (fge .f64 (i2f .f64 0) 4607182418800017408)) = _;rw [sq0]
  refine iter_end (f := 0) (l := 0) (ds' := [.flt p, .flt (i2f .f64 0), .flt (i2f .f64 0), .bool false]) ?_ rfl;show S476L0 G (.flt u) [.flt p, .flt (i2f .f64 0)] = _;unfold S476L0
  repeat' first
   | with_reducible refine st_ift ?_
   | with_reducible refine st_iff ?_
   | ((with_reducible apply st_some); exact c1)
   | ((with_reducible apply st_callt); assumption; exact rfl; exact rfl; assumption)
   | ((with_reducible apply st_callf); assumption; exact rfl; exact rfl; assumption)
   | ((with_reducible apply st_call); assumption; exact rfl; exact rfl; exact rfl)
   | ((with_reducible apply st_wide); exact rfl; exact rfl)
   | ((with_reducible apply st_skip); exact rfl)
   | ((with_reducible apply st_t); exact rfl; exact rfl)
   | ((with_reducible apply st_f); exact rfl; exact rfl)
   | ((with_reducible apply st_t); exact rfl; assumption)
   | ((with_reducible apply st_f); exact rfl; assumption)
   | ((with_reducible apply st_some); exact rfl)
   | exact rfl
 | n + 1, p, hn => by
  obtain ⟨k1, k2, k3⟩ := sq8 n (by omega)
  have c1 : gev none (.fcm .geq .f64) [.flt (i2f .f64 ((n + 1 : Nat) : Int)), .flt 4607182418800017408] = some (.bool true) := by show some (D.bool (fge .f64 (i2f .f64 ((n + 1 : Nat) : Int)) 4607182418800017408)) = _;rw [k1]
  have c3 : gev none (.far .sub .f64) [.flt (i2f .f64 ((n + 1 : Nat) : Int)), .flt 4607182418800017408] = some (.flt (i2f .f64 n)) := by show some (D.flt (fsub .f64 (i2f .f64 ((n + 1 : Nat) : Int)) 4607182418800017408)) = _;rw [k2]
  have c6 : gev none (.far .mul .f64) [.flt (fmul .f64 4611686018427387904 (i2f .f64 ((n + 1 : Nat) : Int))), .flt (fadd .f64 (fmul .f64 4611686018427387904 (i2f .f64 ((n + 1 : Nat) : Int))) 4607182418800017408)] = some (.flt (i2f .f64 ((2 * (n + 1) * (2 * (n + 1) + 1) : Nat) : Int))) := by show some (D.flt (fmul .f64 (fmul .f64 4611686018427387904 (i2f .f64 ((n + 1 : Nat) : Int))) (fadd .f64 (fmul .f64 4611686018427387904 (i2f .f64 ((n + 1 : Nat) : Int))) 4607182418800017408))) = _;rw [k3]
  refine iter_go (ds' := [.flt (fsub .f64 4607182418800017408 (fdiv .f64 (fmul .f64 u p) (i2f .f64 ((2 * (n + 1) * (2 * (n + 1) + 1) : Nat) : Int)))), .flt (i2f .f64 n)]) ?_ (go476 u n _ (by omega))
  show S476L0 G (.flt u) [.flt p, .flt (i2f .f64 ((n + 1 : Nat) : Int))] = _;unfold S476L0
  repeat' first
   | with_reducible refine st_ift ?_
   | with_reducible refine st_iff ?_
   | ((with_reducible apply st_some); exact c1)
   | ((with_reducible apply st_some); exact c3)
   | ((with_reducible apply st_some); exact c6)
   | ((with_reducible apply st_callt); assumption; exact rfl; exact rfl; assumption)
   | ((with_reducible apply st_callf); assumption; exact rfl; exact rfl; assumption)
   | ((with_reducible apply st_call); assumption; exact rfl; exact rfl; exact rfl)
   | ((with_reducible apply st_wide); exact rfl; exact rfl)
   | ((with_reducible apply st_skip); exact rfl)
   | ((with_reducible apply st_t); exact rfl; exact rfl)
   | ((with_reducible apply st_f); exact rfl; exact rfl)
   | ((with_reducible apply st_t); exact rfl; assumption)
   | ((with_reducible apply st_f); exact rfl; assumption)
   | ((with_reducible apply st_some); exact rfl)
   | exact rfl
theorem run476 {G : Told} (g477 : G 477 = F477) : Runs G F476 T476 := by
 intro ds rs h
 unfold F476 at h
 split at h
 case h_2 => cases h
 rename_i y
 obtain ⟨f, hz, rfl⟩ := map_some_eq h
 refine ⟨9, ?_⟩
 rw [eq476]
 unfold S476
 have e0 : F477 [.flt y] = some [.flt f] := by
  show (fracO y).map (fun f => [D.flt f]) = _
  rw [hz];rfl
 have c1 := e0
 have hl : ∀ u, iter (tbody 2 (S476L0 G (.flt u))) 9 [.flt 4607182418800017408, .flt 4620693217682128896] = some (0, [.flt (pgo u 8 4607182418800017408), .flt (i2f .f64 0), .flt (i2f .f64 0), .bool false]) := fun u => by have := go476 (G := G) u 8 4607182418800017408 (Nat.le_refl _); rw [show i2f .f64 ((8 : Nat) : Int) = 4620693217682128896 from sq88] at this; exact this
 cases h1 : fge .f64 f 4602678819172646912
 ·have e1 : fold1 f = f := by unfold fold1; rw [h1]; rfl
  cases h2 : fgt .f64 f 4598175219545276416
  ·have ez : sinZ f = fmul .f64 f 4618760256179416344 := by unfold sinZ fold2; rw [e1, h2]; rfl
   have hs : sinF f = fmul .f64 (fmul .f64 f 4618760256179416344) (pgo (fmul .f64 (fmul .f64 f 4618760256179416344) (fmul .f64 f 4618760256179416344)) 8 4607182418800017408) := by unfold sinF; rw [h1, ez]; rfl
   rw [hs];have hl := hl (fmul .f64 (fmul .f64 f 4618760256179416344) (fmul .f64 f 4618760256179416344))
   repeat' first
    | with_reducible refine st_ift ?_
    | with_reducible refine st_iff ?_
    | ((with_reducible apply st_some); exact c1)
    | ((with_reducible apply st_call); exact g477; exact rfl; exact e0; exact rfl)
    | ((with_reducible apply st_join); exact hl; exact rfl)
    | ((with_reducible apply st_join); exact rfl; exact rfl)
    | ((with_reducible apply st_callt); assumption; exact rfl; exact rfl; assumption)
    | ((with_reducible apply st_callf); assumption; exact rfl; exact rfl; assumption)
    | ((with_reducible apply st_call); assumption; exact rfl; exact rfl; exact rfl)
    | ((with_reducible apply st_wide); exact rfl; exact rfl)
    | ((with_reducible apply st_skip); exact rfl)
    | ((with_reducible apply st_t); exact rfl; exact rfl)
    | ((with_reducible apply st_f); exact rfl; exact rfl)
    | ((with_reducible apply st_t); exact rfl; assumption)
    | ((with_reducible apply st_f); exact rfl; assumption)
    | ((with_reducible apply st_some); exact rfl)
    | exact rfl
  ·have ez : sinZ f = fmul .f64 (fsub .f64 4602678819172646912 f) 4618760256179416344 := by unfold sinZ fold2; rw [e1, h2]; rfl
   have hs : sinF f = fmul .f64 (fmul .f64 (fsub .f64 4602678819172646912 f) 4618760256179416344) (pgo (fmul .f64 (fmul .f64 (fsub .f64 4602678819172646912 f) 4618760256179416344) (fmul .f64 (fsub .f64 4602678819172646912 f) 4618760256179416344)) 8 4607182418800017408) := by unfold sinF; rw [h1, ez]; rfl
   rw [hs];have hl := hl (fmul .f64 (fmul .f64 (fsub .f64 4602678819172646912 f) 4618760256179416344) (fmul .f64 (fsub .f64 4602678819172646912 f) 4618760256179416344))
   repeat' first
    | with_reducible refine st_ift ?_
    | with_reducible refine st_iff ?_
    | ((with_reducible apply st_some); exact c1)
    | ((with_reducible apply st_call); exact g477; exact rfl; exact e0; exact rfl)
    | ((with_reducible apply st_join); exact hl; exact rfl)
    | ((with_reducible apply st_join); exact rfl; exact rfl)
    | ((with_reducible apply st_callt); assumption; exact rfl; exact rfl; assumption)
    | ((with_reducible apply st_callf); assumption; exact rfl; exact rfl; assumption)
    | ((with_reducible apply st_call); assumption; exact rfl; exact rfl; exact rfl)
    | ((with_reducible apply st_wide); exact rfl; exact rfl)
    | ((with_reducible apply st_skip); exact rfl)
    | ((with_reducible apply st_t); exact rfl; exact rfl)
    | ((with_reducible apply st_f); exact rfl; exact rfl)
    | ((with_reducible apply st_t); exact rfl; assumption)
    | ((with_reducible apply st_f); exact rfl; assumption)
    | ((with_reducible apply st_some); exact rfl)
    | exact rfl
 ·have e1 : fold1 f = fsub .f64 f 4602678819172646912 := by unfold fold1; rw [h1]; rfl
  cases h2 : fgt .f64 (fsub .f64 f 4602678819172646912) 4598175219545276416
  ·have ez : sinZ f = fmul .f64 (fsub .f64 f 4602678819172646912) 4618760256179416344 := by unfold sinZ fold2; rw [e1, h2]; rfl
   have hs : sinF f = fneg .f64 (fmul .f64 (fmul .f64 (fsub .f64 f 4602678819172646912) 4618760256179416344) (pgo (fmul .f64 (fmul .f64 (fsub .f64 f 4602678819172646912) 4618760256179416344) (fmul .f64 (fsub .f64 f 4602678819172646912) 4618760256179416344)) 8 4607182418800017408)) := by unfold sinF; rw [h1, ez]; rfl
   rw [hs];have hl := hl (fmul .f64 (fmul .f64 (fsub .f64 f 4602678819172646912) 4618760256179416344) (fmul .f64 (fsub .f64 f 4602678819172646912) 4618760256179416344))
   repeat' first
    | with_reducible refine st_ift ?_
    | with_reducible refine st_iff ?_
    | ((with_reducible apply st_some); exact c1)
    | ((with_reducible apply st_call); exact g477; exact rfl; exact e0; exact rfl)
    | ((with_reducible apply st_join); exact hl; exact rfl)
    | ((with_reducible apply st_join); exact rfl; exact rfl)
    | ((with_reducible apply st_callt); assumption; exact rfl; exact rfl; assumption)
    | ((with_reducible apply st_callf); assumption; exact rfl; exact rfl; assumption)
    | ((with_reducible apply st_call); assumption; exact rfl; exact rfl; exact rfl)
    | ((with_reducible apply st_wide); exact rfl; exact rfl)
    | ((with_reducible apply st_skip); exact rfl)
    | ((with_reducible apply st_t); exact rfl; exact rfl)
    | ((with_reducible apply st_f); exact rfl; exact rfl)
    | ((with_reducible apply st_t); exact rfl; assumption)
    | ((with_reducible apply st_f); exact rfl; assumption)
    | ((with_reducible apply st_some); exact rfl)
    | exact rfl
  ·have ez : sinZ f = fmul .f64 (fsub .f64 4602678819172646912 (fsub .f64 f 4602678819172646912)) 4618760256179416344 := by unfold sinZ fold2; rw [e1, h2]; rfl
   have hs : sinF f = fneg .f64 (fmul .f64 (fmul .f64 (fsub .f64 4602678819172646912 (fsub .f64 f 4602678819172646912)) 4618760256179416344) (pgo (fmul .f64 (fmul .f64 (fsub .f64 4602678819172646912 (fsub .f64 f 4602678819172646912)) 4618760256179416344) (fmul .f64 (fsub .f64 4602678819172646912 (fsub .f64 f 4602678819172646912)) 4618760256179416344)) 8 4607182418800017408)) := by unfold sinF; rw [h1, ez]; rfl
   rw [hs];have hl := hl (fmul .f64 (fmul .f64 (fsub .f64 4602678819172646912 (fsub .f64 f 4602678819172646912)) 4618760256179416344) (fmul .f64 (fsub .f64 4602678819172646912 (fsub .f64 f 4602678819172646912)) 4618760256179416344))
   repeat' first
    | with_reducible refine st_ift ?_
    | with_reducible refine st_iff ?_
    | ((with_reducible apply st_some); exact c1)
    | ((with_reducible apply st_call); exact g477; exact rfl; exact e0; exact rfl)
    | ((with_reducible apply st_join); exact hl; exact rfl)
    | ((with_reducible apply st_join); exact rfl; exact rfl)
    | ((with_reducible apply st_callt); assumption; exact rfl; exact rfl; assumption)
    | ((with_reducible apply st_callf); assumption; exact rfl; exact rfl; assumption)
    | ((with_reducible apply st_call); assumption; exact rfl; exact rfl; exact rfl)
    | ((with_reducible apply st_wide); exact rfl; exact rfl)
    | ((with_reducible apply st_skip); exact rfl)
    | ((with_reducible apply st_t); exact rfl; exact rfl)
    | ((with_reducible apply st_f); exact rfl; exact rfl)
    | ((with_reducible apply st_t); exact rfl; assumption)
    | ((with_reducible apply st_f); exact rfl; assumption)
    | ((with_reducible apply st_some); exact rfl)
    | exact rfl
theorem run474 {G : Told} (g1 : G 1 = F1) (g332 : G 332 = F332) (g476 : G 476 = F476) : Runs G F474 T474 := by
 intro ds rs h
 unfold F474 at h
 split at h
 case h_2 => cases h
 rename_i x
 split at h
 case isFalse => cases h
 rename_i hok
 obtain ⟨z, hz, rfl⟩ := map_some_eq h
 unfold sOk at hok
 simp only [Bool.and_eq_true, beq_iff_eq] at hok
 obtain ⟨⟨w1, w2⟩, w3⟩ := hok
 obtain ⟨a, ha, w4⟩ := Option.map_eq_some_iff.1 w3
 unfold sineO at hz
 obtain ⟨f, hf, hz⟩ := Option.bind_eq_some_iff.1 hz
 have e1 : F1 [.flt x] = some [.bool (finP x)] := rfl
 have e2 : F332 [.flt (wide x)] = some [.flt a] := by
  show (absB (wide x)).map (fun a => [D.flt a]) = _
  rw [ha];rfl
 have e3 : F476 [.flt (wide x)] = some [.flt (sinF f)] := by
  show (fracO (wide x)).map (fun f => [D.flt (sinF f)]) = _
  rw [hf];rfl
 have c1 : gev none (.f2f .f64 .f32) [.flt (sinF f)] = some (.flt z) := by show (f2f .f64 .f32 (sinF f)).map D.flt = _;rw [hz];rfl
 refine ⟨0, ?_⟩
 rw [eq474]
 unfold S474
 rw [w1] at e1
 repeat' first
  | with_reducible refine st_ift ?_
  | with_reducible refine st_iff ?_
  | ((with_reducible apply st_some); exact c1)
  | ((with_reducible apply st_call); exact g1; exact rfl; exact e1; exact rfl)
  | ((with_reducible apply st_call); exact g332; exact rfl; exact e2; exact rfl)
  | ((with_reducible apply st_call); exact g476; exact rfl; exact e3; exact rfl)
  | ((with_reducible apply st_callt); assumption; exact rfl; exact rfl; assumption)
  | ((with_reducible apply st_callf); assumption; exact rfl; exact rfl; assumption)
  | ((with_reducible apply st_call); assumption; exact rfl; exact rfl; exact rfl)
  | ((with_reducible apply st_wide); exact rfl; exact rfl)
  | ((with_reducible apply st_skip); exact rfl)
  | ((with_reducible apply st_t); exact rfl; exact rfl)
  | ((with_reducible apply st_f); exact rfl; exact rfl)
  | ((with_reducible apply st_t); exact rfl; assumption)
  | ((with_reducible apply st_f); exact rfl; assumption)
  | ((with_reducible apply st_some); exact rfl)
  | exact rfl
end Vs
