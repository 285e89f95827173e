/-
  The reference's sine.
-/
import Derived.Test.YtaakjnkllodchaaGreatMf5
import Derived.Test.YtaakjnkllodchaaGreatD
import Derived.Test.YtaakjnkllodchaaGreatK3
import Derived.Test.YtaakjnkllodchaaGreatK8
set_option maxHeartbeats 4000000
namespace Vs
open Go
def fracO (y : Nat) : Option Nat := (f2i .f64 .i64 y).map fun n => if flt .f64 (fsub .f64 y (i2f .f64 n)) 0 = true then fadd .f64 (fsub .f64 y (i2f .f64 n)) 4607182418800017408 else fsub .f64 y (i2f .f64 n)
def pgo (u : Nat) : Nat → Nat → Nat
 | 0, p => p
 | k + 1, p => pgo u k (fsub .f64 4607182418800017408 (fdiv .f64 (fmul .f64 u p) (i2f .f64 ((2 * (k + 1) * (2 * (k + 1) + 1) : Nat) : Int))))
def fold1 (f : Nat) : Nat := if fge .f64 f 4602678819172646912 = true then fsub .f64 f 4602678819172646912 else f
def fold2 (f : Nat) : Nat := if fgt .f64 f 4598175219545276416 = true then fsub .f64 4602678819172646912 f else f
def sinZ (f : Nat) : Nat := fmul .f64 (fold2 (fold1 f)) 4618760256179416344
def sinF (f : Nat) : Nat :=
 if fge .f64 f 4602678819172646912 = true then fneg .f64 (fmul .f64 (sinZ f) (pgo (fmul .f64 (sinZ f) (sinZ f)) 8 4607182418800017408))
 else fmul .f64 (sinZ f) (pgo (fmul .f64 (sinZ f) (sinZ f)) 8 4607182418800017408)
def absB (y : Nat) : Option Nat := if isnan .f64 y = true then none else (ibits .andNot .u64 (y : Int) 9223372036854775808).map fun n => canon .f64 n.toNat
def swOk (y : Nat) : Bool := feq .f64 (fsub .f64 y y) 0 && !fge .f64 y 4841369599423283200 && !fle .f64 y 14064741636278059008
def sOk (x : Nat) : Bool := finP x && swOk (wide x) && ((absB (wide x)).map fun a => fge .f64 a 4841369599423283200) == some false
def sineO (x : Nat) : Option Nat := (fracO (wide x)).bind fun f => f2f .f64 .f32 (sinF f)
def F331 : List D → Option (List D) := fun _ => none
def F475 : List D → Option (List D) | [.flt y] => if swOk y = true then (fracO y).map fun f => [.flt (sinF f)] else none | _ => none
def F474 : List D → Option (List D) | [.flt x] => if sOk x = true then (sineO x).map fun z => [.flt z] else none | _ => none
def T331 : T :=
(oo (.b2f .f64) [kI 9221120237041090561] <|
.out 0 [0])
def T475 : T :=
(oo (.far .sub .f64) [0, 0] <|
oo (.fcm .neq .f64) [1, kF 0] <|
.ite 2
 (cc 331 [] 1 <|
 .out 0 [3])
 (oo (.fcm .geq .f64) [0, kF 4841369599423283200] <|
 oN 3 .id [0] <|
 oN 3 (.fcm .leq .f64) [4, kF 14064741636278059008] <|
 oo .pick [3, kT, 5] <|
 .ite 6
  (.out 0 [kF 0])
  (oo (.f2i .f64 .i64) [0] <|
  oo (.i2f .f64) [7] <|
  oo (.far .sub .f64) [0, 8] <|
  oo (.fcm .lss .f64) [9, kF 0] <|
  .join 1
   (.ite 10
    (oo (.far .add .f64) [9, kF 4607182418800017408] <|
    .out 0 [11])
    (.out 0 [9]))
  (oo (.fcm .geq .f64) [11, kF 4602678819172646912] <|
  .join 1
   (.ite 12
    (oo (.far .sub .f64) [11, kF 4602678819172646912] <|
    .out 0 [13])
    (.out 0 [11]))
  (oo (.fcm .gtr .f64) [13, kF 4598175219545276416] <|
  .join 1
   (.ite 14
    (oo (.far .sub .f64) [kF 4602678819172646912, 13] <|
    .out 0 [15])
    (.out 0 [13]))
  (oo (.far .mul .f64) [15, kF 4618760256179416344] <|
  oo (.far .mul .f64) [16, 16] <|
  .join 4
   (.loop [kF 4607182418800017408, kI 8]
    (oo (.icm .geq) [19, kI 1] <|
    .ite 20
     (oo (.far .mul .f64) [17, 18] <|
     oo (.iar .mul .i64) [kI 2, 19] <|
     oo (.iar .mul .i64) [kI 2, 19] <|
     oo (.iar .add .i64) [23, kI 1] <|
     oo (.iar .mul .i64) [22, 24] <|
     oo (.i2f .f64) [25] <|
     oo (.far .quo .f64) [21, 26] <|
     oo (.far .sub .f64) [kF 4607182418800017408, 27] <|
     oo (.iar .sub .i64) [19, kI 1] <|
     .out 0 [28, 29])
     (.out 1 [18, 19, 19, 20])))
  (.ite 12
   (oo (.far .mul .f64) [16, 18] <|
   oo (.fneg .f64) [22] <|
   .out 0 [23])
   (oo (.far .mul .f64) [16, 18] <|
   .out 0 [22]))))))))
def S475L0 (_G : Told) (x17 : D) : List D → Option (Nat × List D) := fun e18 =>
     (gev none (.icm .geq) [e18.getD 1 .undef, .int 1]).bind fun x20 =>
     tif x20 (
      (gev none (.far .mul .f64) [x17, e18.getD 0 .undef]).bind fun x21 =>
      (gev none (.iar .mul .i64) [.int 2, e18.getD 1 .undef]).bind fun x22 =>
      (gev none (.iar .mul .i64) [.int 2, e18.getD 1 .undef]).bind fun x23 =>
      (gev none (.iar .add .i64) [x23, .int 1]).bind fun x24 =>
      (gev none (.iar .mul .i64) [x22, x24]).bind fun x25 =>
      (gev none (.i2f .f64) [x25]).bind fun x26 =>
      (gev none (.far .quo .f64) [x21, x26]).bind fun x27 =>
      (gev none (.far .sub .f64) [.flt 4607182418800017408, x27]).bind fun x28 =>
      (gev none (.iar .sub .i64) [e18.getD 1 .undef, .int 1]).bind fun x29 =>
      some (0, [x28, x29])) (
      some (1, [e18.getD 0 .undef, e18.getD 1 .undef, e18.getD 1 .undef, x20]))
def S475 (G : Told) (fuel : Nat) (x0 : D) : Option (Nat × List D) :=
 (gev none (.far .sub .f64) [x0, x0]).bind fun x1 =>
 (gev none (.fcm .neq .f64) [x1, .flt 0]).bind fun x2 =>
 tif x2 (
  (gcall G none 331 [] 1).bind fun e3 =>
  some (0, [e3.getD 0 .undef])) (
  (gev none (.fcm .geq .f64) [x0, .flt 4841369599423283200]).bind fun x3 =>
  (gev (some (x3, false)) .id [x0]).bind fun x4 =>
  (gev (some (x3, false)) (.fcm .leq .f64) [x4, .flt 14064741636278059008]).bind fun x5 =>
  (gev none .pick [x3, .bool true, x5]).bind fun x6 =>
  tif x6 (
   some (0, [.flt 0])) (
   (gev none (.f2i .f64 .i64) [x0]).bind fun x7 =>
   (gev none (.i2f .f64) [x7]).bind fun x8 =>
   (gev none (.far .sub .f64) [x0, x8]).bind fun x9 =>
   (gev none (.fcm .lss .f64) [x9, .flt 0]).bind fun x10 =>
   tjoin 1 (
    tif x10 (
     (gev none (.far .add .f64) [x9, .flt 4607182418800017408]).bind fun x11 =>
     some (0, [x11])) (
     some (0, [x9]))) fun e11 =>
   (gev none (.fcm .geq .f64) [e11.getD 0 .undef, .flt 4602678819172646912]).bind fun x12 =>
   tjoin 1 (
    tif x12 (
     (gev none (.far .sub .f64) [e11.getD 0 .undef, .flt 4602678819172646912]).bind fun x13 =>
     some (0, [x13])) (
     some (0, [e11.getD 0 .undef]))) fun e13 =>
   (gev none (.fcm .gtr .f64) [e13.getD 0 .undef, .flt 4598175219545276416]).bind fun x14 =>
   tjoin 1 (
    tif x14 (
     (gev none (.far .sub .f64) [.flt 4602678819172646912, e13.getD 0 .undef]).bind fun x15 =>
     some (0, [x15])) (
     some (0, [e13.getD 0 .undef]))) fun e15 =>
   (gev none (.far .mul .f64) [e15.getD 0 .undef, .flt 4618760256179416344]).bind fun x16 =>
   (gev none (.far .mul .f64) [x16, x16]).bind fun x17 =>
   tjoin 4 (
    iter (tbody 2 (S475L0 G x17)) fuel [.flt 4607182418800017408, .int 8]) fun e18 =>
   tif x12 (
    (gev none (.far .mul .f64) [x16, e18.getD 0 .undef]).bind fun x22 =>
    (gev none (.fneg .f64) [x22]).bind fun x23 =>
    some (0, [x23])) (
    (gev none (.far .mul .f64) [x16, e18.getD 0 .undef]).bind fun x22 =>
    some (0, [x22]))))
theorem eq475 {G fuel} (x0) : run G fuel T475 [x0] = S475 G fuel x0 := by rw [run_eq]; kernel_rfl
def T474s : T :=
(oo (.f2f .f32 .f64) [0] <|
cc 475 [1] 1 <|
cc 10 [2] 1 <|
.out 0 [3])
def S474s (G : Told) (_fuel : Nat) (x0 : D) : Option (Nat × List D) :=
 (gev none (.f2f .f32 .f64) [x0]).bind fun x1 =>
 (gcall G none 475 [x1] 1).bind fun e2 =>
 (gcall G none 10 [e2.getD 0 .undef] 1).bind fun e3 =>
 some (0, [e3.getD 0 .undef])
theorem eq474s {G fuel} (x0) : run G fuel T474s [x0] = S474s G fuel x0 := by rw [run_eq]; kernel_rfl
attribute [local irreducible] fadd fsub fmul fdiv fneg finP overP feq flt fle fgt fge i2f f2i wide f2f ibits canon

theorem run331 {G : Told} : Runs G F331 T331 := by intro ds rs h; cases h
theorem mulN {a b : Nat} (h : a * b ≤ 1000000) : gev none (.iar .mul .i64) [.int a, .int b] = some (.int ((a * b : Nat) : Int)) := by
 have e : gev none (.iar .mul .i64) [.int a, .int b] = some (.int (IntKind.wrap .i64 ((a : Int) * b))) := rfl
 rw [e, show (a : Int) * b = ((a * b : Nat) : Int) by simp, wrap_small (by omega) (by omega)]
theorem addN {a b : Nat} (h : a + b ≤ 1000000) : gev none (.iar .add .i64) [.int a, .int b] = some (.int ((a + b : Nat) : Int)) := by
 have e : gev none (.iar .add .i64) [.int a, .int b] = some (.int (IntKind.wrap .i64 ((a : Int) + b))) := rfl
 rw [e, show (a : Int) + b = ((a + b : Nat) : Int) by simp, wrap_small (by omega) (by omega)]
theorem f2i_ev {y : Nat} {n : Int} (h : f2i .f64 .i64 y = some n) : gev none (.f2i .f64 .i64) [.flt y] = some (.int n) := by
 show (f2i .f64 .i64 y).map D.int = _
 rw [h]
 rfl
theorem go475 {G : Told} (u : Nat) : ∀ n p, n ≤ 8 → iter (tbody 2 (S475L0 G (.flt u))) (n + 1) [.flt p, .int n] = some (0, [.flt (pgo u n p), .int 0, .int 0, .bool false])
 | 0, p, _ => by exact iter_end (f := 0) (l := 0) rfl rfl
 | n + 1, p, hn => by
  have c1 : gev none (.icm .geq) [.int ((n + 1 : Nat) : Int), .int 1] = some (.bool true) := by simp [gev, gok, Prim.ev, icmp]; omega
  have c3 : gev none (.iar .sub .i64) [.int ((n + 1 : Nat) : Int), .int 1] = some (.int n) := by
   have e : gev none (.iar .sub .i64) [.int ((n + 1 : Nat) : Int), .int 1] = some (.int (IntKind.wrap .i64 (((n + 1 : Nat) : Int) - 1))) := rfl;rw [e, wrap_small (by omega) (by omega)]
   congr 2
   omega
  have c4 : gev none (.iar .mul .i64) [.int 2, .int ((n + 1 : Nat) : Int)] = some (.int ((2 * (n + 1) : Nat) : Int)) := mulN (a := 2) (b := n + 1) (by omega)
  have c5 : gev none (.iar .add .i64) [.int ((2 * (n + 1) : Nat) : Int), .int 1] = some (.int ((2 * (n + 1) + 1 : Nat) : Int)) := addN (a := 2 * (n + 1)) (b := 1) (by omega)
  have hle : 2 * (n + 1) * (2 * (n + 1) + 1) ≤ 16 * 17 := Nat.mul_le_mul (by omega) (by omega)
  have c6 : gev none (.iar .mul .i64) [.int ((2 * (n + 1) : Nat) : Int), .int ((2 * (n + 1) + 1 : Nat) : Int)] = some (.int ((2 * (n + 1) * (2 * (n + 1) + 1) : Nat) : Int)) := mulN (by omega)
  refine iter_go (ds' := [.flt (fsub .f64 4607182418800017408 (fdiv .f64 (fmul .f64 u p) (i2f .f64 ((2 * (n + 1) * (2 * (n + 1) + 1) : Nat) : Int)))), .int n]) ?_ (go475 u n _ (by omega))
  show S475L0 G (.flt u) [.flt p, .int ((n + 1 : Nat) : Int)] = _;unfold S475L0
  repeat' first
   | with_reducible refine st_ift ?_
   | with_reducible refine st_iff ?_
   | ((with_reducible apply st_some); exact c1)
   | ((with_reducible apply st_some); exact c3)
   | ((with_reducible apply st_some); exact c4)
   | ((with_reducible apply st_some); exact c5)
   | ((with_reducible apply st_some); exact c6)
   | ((with_reducible apply st_callt); assumption; exact rfl; exact rfl; assumption)
   | ((with_reducible apply st_callf); assumption; exact rfl; exact rfl; assumption)
   | ((with_reducible apply st_call); assumption; exact rfl; exact rfl; exact rfl)
   | ((with_reducible apply st_wide); exact rfl; exact rfl)
   | ((with_reducible apply st_skip); exact rfl)
   | ((with_reducible apply st_t); exact rfl; exact rfl)
   | ((with_reducible apply st_f); exact rfl; exact rfl)
   | ((with_reducible apply st_t); exact rfl; assumption)
   | ((with_reducible apply st_f); exact rfl; assumption)
   | ((with_reducible apply st_some); exact rfl)
   | exact rfl
theorem run475 {G : Told} : Runs G F475 T475 := by
 intro ds rs h
 unfold F475 at h
 split at h
 case h_2 => cases h
 rename_i y
 split at h
 case isFalse => cases h
 rename_i hok
 obtain ⟨f, hz, rfl⟩ := map_some_eq h
 unfold swOk at hok
 simp only [Bool.and_eq_true, Bool.not_eq_true'] at hok
 obtain ⟨⟨w1, w2⟩, w3⟩ := hok
 have w1' : (!feq .f64 (fsub .f64 y y) 0) = false := by rw [w1]; rfl
 unfold fracO at hz
 obtain ⟨n, hn, hz⟩ := Option.map_eq_some_iff.1 hz
 have c1 := f2i_ev hn
 refine ⟨9, ?_⟩
 rw [eq475]
 unfold S475
 cases h0 : flt .f64 (fsub .f64 y (i2f .f64 n)) 0
 ·rw [h0] at hz
  have hz : fsub .f64 y (i2f .f64 n) = f := hz;subst hz;have hl : ∀ u, iter (tbody 2 (S475L0 G (.flt u))) 9 [.flt 4607182418800017408, .int 8] = some (0, [.flt (pgo u 8 4607182418800017408), .int 0, .int 0, .bool false]) := fun u => go475 (G := G) u 8 4607182418800017408 (Nat.le_refl _)
  cases h1 : fge .f64 (fsub .f64 y (i2f .f64 n)) 4602678819172646912
  ·have e1 : fold1 (fsub .f64 y (i2f .f64 n)) = (fsub .f64 y (i2f .f64 n)) := by unfold fold1; rw [h1]; rfl
   cases h2 : fgt .f64 (fsub .f64 y (i2f .f64 n)) 4598175219545276416
   ·have ez : sinZ (fsub .f64 y (i2f .f64 n)) = fmul .f64 (fsub .f64 y (i2f .f64 n)) 4618760256179416344 := by unfold sinZ fold2; rw [e1, h2]; rfl
    have hs : sinF (fsub .f64 y (i2f .f64 n)) = fmul .f64 (fmul .f64 (fsub .f64 y (i2f .f64 n)) 4618760256179416344) (pgo (fmul .f64 (fmul .f64 (fsub .f64 y (i2f .f64 n)) 4618760256179416344) (fmul .f64 (fsub .f64 y (i2f .f64 n)) 4618760256179416344)) 8 4607182418800017408) := by unfold sinF; rw [h1, ez]; rfl
    rw [hs];have hl := hl (fmul .f64 (fmul .f64 (fsub .f64 y (i2f .f64 n)) 4618760256179416344) (fmul .f64 (fsub .f64 y (i2f .f64 n)) 4618760256179416344))
    repeat' first
     | with_reducible refine st_ift ?_
     | with_reducible refine st_iff ?_
     | ((with_reducible apply st_some); exact c1)
     | ((with_reducible apply st_some); exact c1)
     | ((with_reducible apply st_join); exact hl; exact rfl)
     | ((with_reducible apply st_join); exact rfl; exact rfl)
     | ((with_reducible apply st_callt); assumption; exact rfl; exact rfl; assumption)
     | ((with_reducible apply st_callf); assumption; exact rfl; exact rfl; assumption)
     | ((with_reducible apply st_call); assumption; exact rfl; exact rfl; exact rfl)
     | ((with_reducible apply st_wide); exact rfl; exact rfl)
     | ((with_reducible apply st_skip); exact rfl)
     | ((with_reducible apply st_t); exact rfl; exact rfl)
     | ((with_reducible apply st_f); exact rfl; exact rfl)
     | ((with_reducible apply st_t); exact rfl; assumption)
     | ((with_reducible apply st_f); exact rfl; assumption)
     | ((with_reducible apply st_some); exact rfl)
     | exact rfl
   ·have ez : sinZ (fsub .f64 y (i2f .f64 n)) = fmul .f64 (fsub .f64 4602678819172646912 (fsub .f64 y (i2f .f64 n))) 4618760256179416344 := by unfold sinZ fold2; rw [e1, h2]; rfl
    have hs : sinF (fsub .f64 y (i2f .f64 n)) = fmul .f64 (fmul .f64 (fsub .f64 4602678819172646912 (fsub .f64 y (i2f .f64 n))) 4618760256179416344) (pgo (fmul .f64 (fmul .f64 (fsub .f64 4602678819172646912 (fsub .f64 y (i2f .f64 n))) 4618760256179416344) (fmul .f64 (fsub .f64 4602678819172646912 (fsub .f64 y (i2f .f64 n))) 4618760256179416344)) 8 4607182418800017408) := by unfold sinF; rw [h1, ez]; rfl
    rw [hs];have hl := hl (fmul .f64 (fmul .f64 (fsub .f64 4602678819172646912 (fsub .f64 y (i2f .f64 n))) 4618760256179416344) (fmul .f64 (fsub .f64 4602678819172646912 (fsub .f64 y (i2f .f64 n))) 4618760256179416344))
    repeat' first
     | with_reducible refine st_ift ?_
     | with_reducible refine st_iff ?_
     | ((with_reducible apply st_some); exact c1)
     | ((with_reducible apply st_some); exact c1)
     | ((with_reducible apply st_join); exact hl; exact rfl)
     | ((with_reducible apply st_join); exact rfl; exact rfl)
     | ((with_reducible apply st_callt); assumption; exact rfl; exact rfl; assumption)
     | ((with_reducible apply st_callf); assumption; exact rfl; exact rfl; assumption)
     | ((with_reducible apply st_call); assumption; exact rfl; exact rfl; exact rfl)
     | ((with_reducible apply st_wide); exact rfl; exact rfl)
     | ((with_reducible apply st_skip); exact rfl)
     | ((with_reducible apply st_t); exact rfl; exact rfl)
     | ((with_reducible apply st_f); exact rfl; exact rfl)
     | ((with_reducible apply st_t); exact rfl; assumption)
     | ((with_reducible apply st_f); exact rfl; assumption)
     | ((with_reducible apply st_some); exact rfl)
     | exact rfl
  ·have e1 : fold1 (fsub .f64 y (i2f .f64 n)) = fsub .f64 (fsub .f64 y (i2f .f64 n)) 4602678819172646912 := by unfold fold1; rw [h1]; rfl
   cases h2 : fgt .f64 (fsub .f64 (fsub .f64 y (i2f .f64 n)) 4602678819172646912) 4598175219545276416
   ·have ez : sinZ (fsub .f64 y (i2f .f64 n)) = fmul .f64 (fsub .f64 (fsub .f64 y (i2f .f64 n)) 4602678819172646912) 4618760256179416344 := by unfold sinZ fold2; rw [e1, h2]; rfl
    have hs : sinF (fsub .f64 y (i2f .f64 n)) = fneg .f64 (fmul .f64 (fmul .f64 (fsub .f64 (fsub .f64 y (i2f .f64 n)) 4602678819172646912) 4618760256179416344) (pgo (fmul .f64 (fmul .f64 (fsub .f64 (fsub .f64 y (i2f .f64 n)) 4602678819172646912) 4618760256179416344) (fmul .f64 (fsub .f64 (fsub .f64 y (i2f .f64 n)) 4602678819172646912) 4618760256179416344)) 8 4607182418800017408)) := by unfold sinF; rw [h1, ez]; rfl
    rw [hs];have hl := hl (fmul .f64 (fmul .f64 (fsub .f64 (fsub .f64 y (i2f .f64 n)) 4602678819172646912) 4618760256179416344) (fmul .f64 (fsub .f64 (fsub .f64 y (i2f .f64 n)) 4602678819172646912) 4618760256179416344))
    repeat' first
     | with_reducible refine st_ift ?_
     | with_reducible refine st_iff ?_
     | ((with_reducible apply st_some); exact c1)
     | ((with_reducible apply st_some); exact c1)
     | ((with_reducible apply st_join); exact hl; exact rfl)
     | ((with_reducible apply st_join); exact rfl; exact rfl)
     | ((with_reducible apply st_callt); assumption; exact rfl; exact rfl; assumption)
     | ((with_reducible apply st_callf); assumption; exact rfl; exact rfl; assumption)
     | ((with_reducible apply st_call); assumption; exact rfl; exact rfl; exact rfl)
     | ((with_reducible apply st_wide); exact rfl; exact rfl)
     | ((with_reducible apply st_skip); exact rfl)
     | ((with_reducible apply st_t); exact rfl; exact rfl)
     | ((with_reducible apply st_f); exact rfl; exact rfl)
     | ((with_reducible apply st_t); exact rfl; assumption)
     | ((with_reducible apply st_f); exact rfl; assumption)
     | ((with_reducible apply st_some); exact rfl)
     | exact rfl
   ·have ez : sinZ (fsub .f64 y (i2f .f64 n)) = fmul .f64 (fsub .f64 4602678819172646912 (fsub .f64 (fsub .f64 y (i2f .f64 n)) 4602678819172646912)) 4618760256179416344 := by unfold sinZ fold2; rw [e1, h2]; rfl
    have hs : sinF (fsub .f64 y (i2f .f64 n)) = fneg .f64 (fmul .f64 (fmul .f64 (fsub .f64 4602678819172646912 (fsub .f64 (fsub .f64 y (i2f .f64 n)) 4602678819172646912)) 4618760256179416344) (pgo (fmul .f64 (fmul .f64 (fsub .f64 4602678819172646912 (fsub .f64 (fsub .f64 y (i2f .f64 n)) 4602678819172646912)) 4618760256179416344) (fmul .f64 (fsub .f64 4602678819172646912 (fsub .f64 (fsub .f64 y (i2f .f64 n)) 4602678819172646912)) 4618760256179416344)) 8 4607182418800017408)) := by unfold sinF; rw [h1, ez]; rfl
    rw [hs];have hl := hl (fmul .f64 (fmul .f64 (fsub .f64 4602678819172646912 (fsub .f64 (fsub .f64 y (i2f .f64 n)) 4602678819172646912)) 4618760256179416344) (fmul .f64 (fsub .f64 4602678819172646912 (fsub .f64 (fsub .f64 y (i2f .f64 n)) 4602678819172646912)) 4618760256179416344))
    repeat' first
     | with_reducible refine st_ift ?_
     | with_reducible refine st_iff ?_
     | ((with_reducible apply st_some); exact c1)
     | ((with_reducible apply st_some); exact c1)
     | ((with_reducible apply st_join); exact hl; exact rfl)
     | ((with_reducible apply st_join); exact rfl; exact rfl)
     | ((with_reducible apply st_callt); assumption; exact rfl; exact rfl; assumption)
     | ((with_reducible apply st_callf); assumption; exact rfl; exact rfl; assumption)
     | ((with_reducible apply st_call); assumption; exact rfl; exact rfl; exact rfl)
     | ((with_reducible apply st_wide); exact rfl; exact rfl)
     | ((with_reducible apply st_skip); exact rfl)
     | ((with_reducible apply st_t); exact rfl; exact rfl)
     | ((with_reducible apply st_f); exact rfl; exact rfl)
     | ((with_reducible apply st_t); exact rfl; assumption)
     | ((with_reducible apply st_f); exact rfl; assumption)
     | ((with_reducible apply st_some); exact rfl)
     | exact rfl
 ·rw [h0] at hz
  have hz : fadd .f64 (fsub .f64 y (i2f .f64 n)) 4607182418800017408 = f := hz;subst hz;have hl : ∀ u, iter (tbody 2 (S475L0 G (.flt u))) 9 [.flt 4607182418800017408, .int 8] = some (0, [.flt (pgo u 8 4607182418800017408), .int 0, .int 0, .bool false]) := fun u => go475 (G := G) u 8 4607182418800017408 (Nat.le_refl _)
  cases h1 : fge .f64 (fadd .f64 (fsub .f64 y (i2f .f64 n)) 4607182418800017408) 4602678819172646912
  ·have e1 : fold1 (fadd .f64 (fsub .f64 y (i2f .f64 n)) 4607182418800017408) = (fadd .f64 (fsub .f64 y (i2f .f64 n)) 4607182418800017408) := by unfold fold1; rw [h1]; rfl
   cases h2 : fgt .f64 (fadd .f64 (fsub .f64 y (i2f .f64 n)) 4607182418800017408) 4598175219545276416
   ·have ez : sinZ (fadd .f64 (fsub .f64 y (i2f .f64 n)) 4607182418800017408) = fmul .f64 (fadd .f64 (fsub .f64 y (i2f .f64 n)) 4607182418800017408) 4618760256179416344 := by unfold sinZ fold2; rw [e1, h2]; rfl
    have hs : sinF (fadd .f64 (fsub .f64 y (i2f .f64 n)) 4607182418800017408) = fmul .f64 (fmul .f64 (fadd .f64 (fsub .f64 y (i2f .f64 n)) 4607182418800017408) 4618760256179416344) (pgo (fmul .f64 (fmul .f64 (fadd .f64 (fsub .f64 y (i2f .f64 n)) 4607182418800017408) 4618760256179416344) (fmul .f64 (fadd .f64 (fsub .f64 y (i2f .f64 n)) 4607182418800017408) 4618760256179416344)) 8 4607182418800017408) := by unfold sinF; rw [h1, ez]; rfl
    rw [hs];have hl := hl (fmul .f64 (fmul .f64 (fadd .f64 (fsub .f64 y (i2f .f64 n)) 4607182418800017408) 4618760256179416344) (fmul .f64 (fadd .f64 (fsub .f64 y (i2f .f64 n)) 4607182418800017408) 4618760256179416344))
    repeat' first
     | with_reducible refine st_ift ?_
     | with_reducible refine st_iff ?_
     | ((with_reducible apply st_some); exact c1)
     | ((with_reducible apply st_some); exact c1)
     | ((with_reducible apply st_join); exact hl; exact rfl)
     | ((with_reducible apply st_join); exact rfl; exact rfl)
     | ((with_reducible apply st_callt); assumption; exact rfl; exact rfl; assumption)
     | ((with_reducible apply st_callf); assumption; exact rfl; exact rfl; assumption)
     | ((with_reducible apply st_call); assumption; exact rfl; exact rfl; exact rfl)
     | ((with_reducible apply st_wide); exact rfl; exact rfl)
     | ((with_reducible apply st_skip); exact rfl)
     | ((with_reducible apply st_t); exact rfl; exact rfl)
     | ((with_reducible apply st_f); exact rfl; exact rfl)
     | ((with_reducible apply st_t); exact rfl; assumption)
     | ((with_reducible apply st_f); exact rfl; assumption)
     | ((with_reducible apply st_some); exact rfl)
     | exact rfl
   ·have ez : sinZ (fadd .f64 (fsub .f64 y (i2f .f64 n)) 4607182418800017408) = fmul .f64 (fsub .f64 4602678819172646912 (fadd .f64 (fsub .f64 y (i2f .f64 n)) 4607182418800017408)) 4618760256179416344 := by unfold sinZ fold2; rw [e1, h2]; rfl
    have hs : sinF (fadd .f64 (fsub .f64 y (i2f .f64 n)) 4607182418800017408) = fmul .f64 (fmul .f64 (fsub .f64 4602678819172646912 (fadd .f64 (fsub .f64 y (i2f .f64 n)) 4607182418800017408)) 4618760256179416344) (pgo (fmul .f64 (fmul .f64 (fsub .f64 4602678819172646912 (fadd .f64 (fsub .f64 y (i2f .f64 n)) 4607182418800017408)) 4618760256179416344) (fmul .f64 (fsub .f64 4602678819172646912 (fadd .f64 (fsub .f64 y (i2f .f64 n)) 4607182418800017408)) 4618760256179416344)) 8 4607182418800017408) := by unfold sinF; rw [h1, ez]; rfl
    rw [hs];have hl := hl (fmul .f64 (fmul .f64 (fsub .f64 4602678819172646912 (fadd .f64 (fsub .f64 y (i2f .f64 n)) 4607182418800017408)) 4618760256179416344) (fmul .f64 (fsub .f64 4602678819172646912 (fadd .f64 (fsub .f64 y (i2f .f64 n)) 4607182418800017408)) 4618760256179416344))
    repeat' first
     | with_reducible refine st_ift ?_
     | with_reducible refine st_iff ?_
     | ((with_reducible apply st_some); exact c1)
     | ((with_reducible apply st_some); exact c1)
     | ((with_reducible apply st_join); exact hl; exact rfl)
     | ((with_reducible apply st_join); exact rfl; exact rfl)
     | ((with_reducible apply st_callt); assumption; exact rfl; exact rfl; assumption)
     | ((with_reducible apply st_callf); assumption; exact rfl; exact rfl; assumption)
     | ((with_reducible apply st_call); assumption; exact rfl; exact rfl; exact rfl)
     | ((with_reducible apply st_wide); exact rfl; exact rfl)
     | ((with_reducible apply st_skip); exact rfl)
     | ((with_reducible apply st_t); exact rfl; exact rfl)
     | ((with_reducible apply st_f); exact rfl; exact rfl)
     | ((with_reducible apply st_t); exact rfl; assumption)
     | ((with_reducible apply st_f); exact rfl; assumption)
     | ((with_reducible apply st_some); exact rfl)
     | exact rfl
  ·have e1 : fold1 (fadd .f64 (fsub .f64 y (i2f .f64 n)) 4607182418800017408) = fsub .f64 (fadd .f64 (fsub .f64 y (i2f .f64 n)) 4607182418800017408) 4602678819172646912 := by unfold fold1; rw [h1]; rfl
   cases h2 : fgt .f64 (fsub .f64 (fadd .f64 (fsub .f64 y (i2f .f64 n)) 4607182418800017408) 4602678819172646912) 4598175219545276416
   ·have ez : sinZ (fadd .f64 (fsub .f64 y (i2f .f64 n)) 4607182418800017408) = fmul .f64 (fsub .f64 (fadd .f64 (fsub .f64 y (i2f .f64 n)) 4607182418800017408) 4602678819172646912) 4618760256179416344 := by unfold sinZ fold2; rw [e1, h2]; rfl
    have hs : sinF (fadd .f64 (fsub .f64 y (i2f .f64 n)) 4607182418800017408) = fneg .f64 (fmul .f64 (fmul .f64 (fsub .f64 (fadd .f64 (fsub .f64 y (i2f .f64 n)) 4607182418800017408) 4602678819172646912) 4618760256179416344) (pgo (fmul .f64 (fmul .f64 (fsub .f64 (fadd .f64 (fsub .f64 y (i2f .f64 n)) 4607182418800017408) 4602678819172646912) 4618760256179416344) (fmul .f64 (fsub .f64 (fadd .f64 (fsub .f64 y (i2f .f64 n)) 4607182418800017408) 4602678819172646912) 4618760256179416344)) 8 4607182418800017408)) := by unfold sinF; rw [h1, ez]; rfl
    rw [hs];have hl := hl (fmul .f64 (fmul .f64 (fsub .f64 (fadd .f64 (fsub .f64 y (i2f .f64 n)) 4607182418800017408) 4602678819172646912) 4618760256179416344) (fmul .f64 (fsub .f64 (fadd .f64 (fsub .f64 y (i2f .f64 n)) 4607182418800017408) 4602678819172646912) 4618760256179416344))
    repeat' first
     | with_reducible refine st_ift ?_
     | with_reducible refine st_iff ?_
     | ((with_reducible apply st_some); exact c1)
     | ((with_reducible apply st_some); exact c1)
     | ((with_reducible apply st_join); exact hl; exact rfl)
     | ((with_reducible apply st_join); exact rfl; exact rfl)
     | ((with_reducible apply st_callt); assumption; exact rfl; exact rfl; assumption)
     | ((with_reducible apply st_callf); assumption; exact rfl; exact rfl; assumption)
     | ((with_reducible apply st_call); assumption; exact rfl; exact rfl; exact rfl)
     | ((with_reducible apply st_wide); exact rfl; exact rfl)
     | ((with_reducible apply st_skip); exact rfl)
     | ((with_reducible apply st_t); exact rfl; exact rfl)
     | ((with_reducible apply st_f); exact rfl; exact rfl)
     | ((with_reducible apply st_t); exact rfl; assumption)
     | ((with_reducible apply st_f); exact rfl; assumption)
     | ((with_reducible apply st_some); exact rfl)
     | exact rfl
   ·have ez : sinZ (fadd .f64 (fsub .f64 y (i2f .f64 n)) 4607182418800017408) = fmul .f64 (fsub .f64 4602678819172646912 (fsub .f64 (fadd .f64 (fsub .f64 y (i2f .f64 n)) 4607182418800017408) 4602678819172646912)) 4618760256179416344 := by unfold sinZ fold2; rw [e1, h2]; rfl
    have hs : sinF (fadd .f64 (fsub .f64 y (i2f .f64 n)) 4607182418800017408) = fneg .f64 (fmul .f64 (fmul .f64 (fsub .f64 4602678819172646912 (fsub .f64 (fadd .f64 (fsub .f64 y (i2f .f64 n)) 4607182418800017408) 4602678819172646912)) 4618760256179416344) (pgo (fmul .f64 (fmul .f64 (fsub .f64 4602678819172646912 (fsub .f64 (fadd .f64 (fsub .f64 y (i2f .f64 n)) 4607182418800017408) 4602678819172646912)) 4618760256179416344) (fmul .f64 (fsub .f64 4602678819172646912 (fsub .f64 (fadd .f64 (fsub .f64 y (i2f .f64 n)) 4607182418800017408) 4602678819172646912)) 4618760256179416344)) 8 4607182418800017408)) := by unfold sinF; rw [h1, ez]; rfl
    rw [hs];have hl := hl (fmul .f64 (fmul .f64 (fsub .f64 4602678819172646912 (fsub .f64 (fadd .f64 (fsub .f64 y (i2f .f64 n)) 4607182418800017408) 4602678819172646912)) 4618760256179416344) (fmul .f64 (fsub .f64 4602678819172646912 (fsub .f64 (fadd .f64 (fsub .f64 y (i2f .f64 n)) 4607182418800017408) 4602678819172646912)) 4618760256179416344))
    repeat' first
     | with_reducible refine st_ift ?_
     | with_reducible refine st_iff ?_
     | ((with_reducible apply st_some); exact c1)
     | ((with_reducible apply st_some); exact c1)
     | ((with_reducible apply st_join); exact hl; exact rfl)
     | ((with_reducible apply st_join); exact rfl; exact rfl)
     | ((with_reducible apply st_callt); assumption; exact rfl; exact rfl; assumption)
     | ((with_reducible apply st_callf); assumption; exact rfl; exact rfl; assumption)
     | ((with_reducible apply st_call); assumption; exact rfl; exact rfl; exact rfl)
     | ((with_reducible apply st_wide); exact rfl; exact rfl)
     | ((with_reducible apply st_skip); exact rfl)
     | ((with_reducible apply st_t); exact rfl; exact rfl)
     | ((with_reducible apply st_f); exact rfl; exact rfl)
     | ((with_reducible apply st_t); exact rfl; assumption)
     | ((with_reducible apply st_f); exact rfl; assumption)
     | ((with_reducible apply st_some); exact rfl)
     | exact rfl
theorem run474s {G : Told} (g10 : G 10 = F10) (g475 : G 475 = F475) : Runs G F474 T474s := by
 intro ds rs h
 unfold F474 at h
 split at h
 case h_2 => cases h
 rename_i x
 split at h
 case isFalse => cases h
 rename_i hok
 obtain ⟨z, hz, rfl⟩ := map_some_eq h
 unfold sOk at hok
 simp only [Bool.and_eq_true, beq_iff_eq] at hok
 obtain ⟨⟨w1, w2⟩, w3⟩ := hok
 unfold sineO at hz
 obtain ⟨f, hf, hz⟩ := Option.bind_eq_some_iff.1 hz
 have e3 : F475 [.flt (wide x)] = some [.flt (sinF f)] := by
  show (if swOk (wide x) = true then (fracO (wide x)).map (fun f => [D.flt (sinF f)]) else none) = _
  rw [w2, hf];rfl
 have e4 : F10 [.flt (sinF f)] = some [.flt z] := by
  show (f2f .f64 .f32 (sinF f)).map (fun y => [D.flt y]) = _
  rw [hz];rfl
 refine ⟨0, ?_⟩
 rw [eq474s]
 unfold S474s
 repeat' first
  | with_reducible refine st_ift ?_
  | with_reducible refine st_iff ?_
  | ((with_reducible apply st_call); exact g10; exact rfl; exact e4; exact rfl)
  | ((with_reducible apply st_call); exact g475; exact rfl; exact e3; exact rfl)
  | ((with_reducible apply st_callt); assumption; exact rfl; exact rfl; assumption)
  | ((with_reducible apply st_callf); assumption; exact rfl; exact rfl; assumption)
  | ((with_reducible apply st_call); assumption; exact rfl; exact rfl; exact rfl)
  | ((with_reducible apply st_wide); exact rfl; exact rfl)
  | ((with_reducible apply st_skip); exact rfl)
  | ((with_reducible apply st_t); exact rfl; exact rfl)
  | ((with_reducible apply st_f); exact rfl; exact rfl)
  | ((with_reducible apply st_t); exact rfl; assumption)
  | ((with_reducible apply st_f); exact rfl; assumption)
  | ((with_reducible apply st_some); exact rfl)
  | exact rfl
end Vs
