/-
  Bytes that move a mesh: R8Moved and what it draws from.
-/
import Derived.Test.YtaakjnkllodchaaGreatK9
set_option maxHeartbeats 4000000
namespace Vs
open Go
def bxD (cs : List Int) (at_ sd : Int) : D := .agg [il cs, .int at_, .int sd]
def bytes (cs : List Int) : Prop := ∀ x ∈ cs, 0 ≤ x ∧ x ≤ 255
def byt (cs : List Int) (k : Int) : Int := if k < cs.length then cs.getD k.toNat 0 else 0
def sdN (sd b : Int) : Int := IntKind.wrap .u64 (IntKind.wrap .u64 (IntKind.wrap .u64 (sd * 6364136223846793005) + IntKind.wrap .u64 b) + 1442695040888963407)
def topA (sd : Int) : Int := sd.fdiv (2 ^ 40)
def topB (sd : Int) : Int := IntKind.wrap .u64 (BitVec.ofInt 64 (topA sd) &&& BitVec.ofInt 64 255).toNat
def nxtV (cs : List Int) (k sd : Int) : Int := if k + 1 ≤ cs.length then byt cs k else IntKind.wrap .i64 (topB (sdN sd (byt cs k)))
open Classical in
noncomputable def F540 : List D → Option (List D)
 | [a] => (dI a).bind fun cs => some [bxD cs 0 0]
 | _ => none
open Classical in
noncomputable def F541 : List D → Option (List D)
 | [.agg [a, .int k, .int sd]] => (dI a).bind fun cs => if bytes cs ∧ 0 ≤ k ∧ k ≤ 1000000 then some [.int (nxtV cs k sd), bxD cs (k + 1) (sdN sd (byt cs k))] else none
 | _ => none
open Classical in
noncomputable def F542 : List D → Option (List D)
 | [.agg [a, .int k, .int sd], .int n] => (dI a).bind fun cs => if bytes cs ∧ (0 ≤ k ∧ k ≤ 1000000) ∧ 2 ≤ n ∧ n ≤ 200 then some [.int ((nxtV cs k sd).tmod n), bxD cs (k + 1) (sdN sd (byt cs k))] else none
 | _ => none
theorem F541_m {cs : List Int} {k sd : Int} (h : bytes cs) (h0 : 0 ≤ k) (h1 : k ≤ 1000000) : F541 [bxD cs k sd] = some [.int (nxtV cs k sd), bxD cs (k + 1) (sdN sd (byt cs k))] := by
 simp only [F541, bxD, dI_il, Option.bind_some]
 exact if_pos ⟨h, h0, h1⟩
theorem F542_m {cs : List Int} {k sd n : Int} (h : bytes cs) (h0 : 0 ≤ k) (h1 : k ≤ 1000000) (h2 : 2 ≤ n) (h3 : n ≤ 200) : F542 [bxD cs k sd, .int n] = some [.int ((nxtV cs k sd).tmod n), bxD cs (k + 1) (sdN sd (byt cs k))] := by
 simp only [F542, bxD, dI_il, Option.bind_some]
 exact if_pos ⟨h, ⟨h0, h1⟩, h2, h3⟩
theorem byt_rng {cs : List Int} (h : bytes cs) (k : Int) : 0 ≤ byt cs k ∧ byt cs k ≤ 255 := by
 unfold byt
 split
 ·rw [List.getD_eq_getElem?_getD]
  cases e : cs[k.toNat]? with
  | none => simp
  | some x => exact h x (List.mem_of_getElem? e)
 ·omega
theorem wrap_u {x : Int} (h0 : 0 ≤ x) (h1 : x < 18446744073709551616) : IntKind.wrap .u64 x = x := by
 simp only [IntKind.wrap, IntKind.bits, IntKind.signed]
 have e : (2 : Int) ^ 64 = 18446744073709551616 := by decide
 simp only [e, Bool.false_and]
 simp
 omega
theorem wrap_i {x : Int} (h0 : -9223372036854775808 ≤ x) (h1 : x < 9223372036854775808) : IntKind.wrap .i64 x = x := by
 simp only [IntKind.wrap, IntKind.bits, IntKind.signed]
 have e : (2 : Int) ^ 64 = 18446744073709551616 := by decide
 simp only [e, Bool.true_and]
 split
 ·rename_i h
  simp at h;omega
 ·rename_i h
  simp at h;omega
theorem topB_rng (sd : Int) : 0 ≤ topB sd ∧ topB sd ≤ 255 := by
 unfold topB
 have h : (BitVec.ofInt 64 (topA sd) &&& BitVec.ofInt 64 255).toNat ≤ 255 := by rw [BitVec.toNat_and];exact Nat.le_trans Nat.and_le_right (by decide)
 rw [wrap_u (by omega) (by omega)]
 omega
theorem nxtV_rng {cs : List Int} (h : bytes cs) (k sd : Int) : 0 ≤ nxtV cs k sd ∧ nxtV cs k sd ≤ 255 := by
 unfold nxtV
 split
 ·exact byt_rng h k
 ·have := topB_rng (sdN sd (byt cs k))
  rw [wrap_i (by omega) (by omega)]
  exact this
def sdA (cs : List Int) : Nat → Int
 | 0 => 0
 | j + 1 => sdN (sdA cs j) (byt cs (j : Int))
def pkN (cs : List Int) (j : Nat) : Int := (nxtV cs (j : Int) (sdA cs j)).tmod 9
def offF (cs : List Int) (j : Nat) : Nat := fdiv .f32 (i2f .f32 (pkN cs j - 4)) 1090519040
def mvV (cs : List Int) (i : Nat) (v : V3) : V3 := V3.add v ⟨offF cs (3 * i), offF cs (3 * i + 1), offF cs (3 * i + 2)⟩
def mvN (cs : List Int) (vs : List V3) : Nat → List V3
 | 0 => vs
 | i + 1 => (mvN cs vs i).set i (mvV cs i ((mvN cs vs i).getD i ⟨0, 0, 0⟩))
theorem mvN_len (cs : List Int) (vs : List V3) : ∀ i, (mvN cs vs i).length = vs.length
 | 0 => rfl
 | i + 1 => by rw [mvN, List.length_set, mvN_len]
theorem mvN_get (cs : List Int) (vs : List V3) : ∀ i j, (mvN cs vs i).getD j ⟨0, 0, 0⟩ = if j < i ∧ j < vs.length then mvV cs j (vs.getD j ⟨0, 0, 0⟩) else vs.getD j ⟨0, 0, 0⟩
 | 0, j => by simp [mvN]
 | i + 1, j => by
  rw [mvN, List.getD_eq_getElem?_getD, List.getElem?_set]
  by_cases h : i = j
  ·subst h
   rw [if_pos rfl, mvN_len]
   by_cases hl : i < vs.length
   ·rw [if_pos hl, if_pos ⟨by omega, hl⟩, Option.getD_some, mvN_get cs vs i i, if_neg (by omega)]
   ·rw [if_neg hl, if_neg (by omega)]
    simp only [Option.getD_none];rw [List.getD_eq_getElem?_getD, List.getElem?_eq_none (by omega)]
    rfl
  ·rw [if_neg h, ← List.getD_eq_getElem?_getD, mvN_get cs vs i j]
   by_cases hc : j < i ∧ j < vs.length
   ·rw [if_pos hc, if_pos ⟨by omega, hc.2⟩]
   ·rw [if_neg hc, if_neg (by omega)]
def mvA (cs : List Int) (vs : List V3) : List V3 := mvN cs vs vs.length
theorem pkN_rng {cs : List Int} (h : bytes cs) (j : Nat) : 0 ≤ pkN cs j ∧ pkN cs j ≤ 8 := by
 have := nxtV_rng h (j : Int) (sdA cs j)
 unfold pkN
 rw [Int.tmod_eq_emod_of_nonneg this.1]
 omega
open Classical in
noncomputable def F543 : List D → Option (List D)
 | [c, a, b] => (dI c).bind fun cs => (dV a).bind fun vs => (dT b).bind fun ts => if bytes cs ∧ szM vs ts ≤ 1048576 ∧ vs.length ≤ 1000 then some [vl (mvA cs vs), tl ts] else none
 | _ => none
theorem F543_m {cs : List Int} {vs : List V3} {ts : List (List Int)} (h : bytes cs) (h1 : szM vs ts ≤ 1048576) (h2 : vs.length ≤ 1000) : F543 [il cs, vl vs, tl ts] = some [vl (mvA cs vs), tl ts] := by
 simp only [F543, dI_il, dV_vl, dT_tl, Option.bind_some]
 exact if_pos ⟨h, h1, h2⟩
theorem b_0 {cs : List Int} {k sd : Int} : gev none (.proj 0) [bxD cs k sd] = some (il cs) := (rfl)
theorem b_1 {cs : List Int} {k sd : Int} : gev none (.proj 1) [bxD cs k sd] = some (.int k) := (rfl)
theorem b_2 {cs : List Int} {k sd : Int} : gev none (.proj 2) [bxD cs k sd] = some (.int sd) := (rfl)
theorem b_mk {cs : List Int} {k sd : Int} : gev none .mkagg [il cs, .int k, .int sd] = some (bxD cs k sd) := (rfl)
theorem u_lss {x y : Int} : gev none (.icm .lss) [.int x, .int y] = some (.bool (decide (x < y))) := (rfl)
theorem u_leq {x y : Int} : gev none (.icm .leq) [.int x, .int y] = some (.bool (decide (x ≤ y))) := (rfl)
theorem u_gtr {x y : Int} : gev none (.icm .gtr) [.int x, .int y] = some (.bool (decide (x > y))) := (rfl)
theorem u_add {x y : Int} : gev none (.iar .add .i64) [.int x, .int y] = some (.int (IntKind.wrap .i64 (x + y))) := (rfl)
theorem u_sub {x y : Int} : gev none (.iar .sub .i64) [.int x, .int y] = some (.int (IntKind.wrap .i64 (x - y))) := (rfl)
theorem u_addu {x y : Int} : gev none (.iar .add .u64) [.int x, .int y] = some (.int (IntKind.wrap .u64 (x + y))) := (rfl)
theorem u_mulu {x y : Int} : gev none (.iar .mul .u64) [.int x, .int y] = some (.int (IntKind.wrap .u64 (x * y))) := (rfl)
theorem u_cu {x : Int} : gev none (.i2i .u64) [.int x] = some (.int (IntKind.wrap .u64 x)) := (rfl)
theorem u_ci {x : Int} : gev none (.i2i .i64) [.int x] = some (.int (IntKind.wrap .i64 x)) := (rfl)
theorem u_shr {x : Int} : gev none (.shf .shr .u64) [.int x, .int 40] = some (.int (topA x)) := (rfl)
theorem u_and {x : Int} : gev none (.ibt .and .u64) [.int (topA x), .int 255] = some (.int (topB x)) := (rfl)
theorem u_i2f {x : Int} : gev none (.i2f .f32) [.int x] = some (.flt (i2f .f32 x)) := (rfl)
theorem u_quo {x y : Nat} : gev none (.far .quo .f32) [.flt x, .flt y] = some (.flt (fdiv .f32 x y)) := (rfl)
theorem u_agg {xs : List D} : gev none .mkagg xs = some (.agg xs) := (rfl)
theorem u_v0 {v : V3} : gev none (.proj 0) [vec v] = some (.flt v.x) := (rfl)
theorem u_v1 {v : V3} : gev none (.proj 1) [vec v] = some (.flt v.y) := (rfl)
theorem u_v2 {v : V3} : gev none (.proj 2) [vec v] = some (.flt v.z) := (rfl)
def T540 : T :=
(oo .mkagg [0, kI 0, kI 0] <|
.out 0 [1])
def S540 (_G : Told) (_fuel : Nat) (x0 : D) : Option (Nat × List D) :=
 (gev none .mkagg [x0, .int 0, .int 0]).bind fun x1 =>
 some (0, [x1])
theorem eq540 {G fuel} (x0) : run G fuel T540 [x0] = S540 G fuel x0 := by rw [run_eq]; kernel_rfl
def T541 : T :=
(oo (.proj 1) [0] <|
oo (.proj 0) [0] <|
oo .len [2] <|
oo (.icm .lss) [1, 3] <|
.join 1
 (.ite 4
  (oo (.proj 0) [0] <|
  oo (.proj 1) [0] <|
  oo .idx [5, 6] <|
  oo (.i2i .i64) [7] <|
  .out 0 [8])
  (.out 0 [kI 0]))
(oo (.proj 1) [0] <|
oo (.iar .add .i64) [6, kI 1] <|
oo (.proj 0) [0] <|
oo (.proj 1) [0] <|
oo (.proj 2) [0] <|
oo .mkagg [8, 7, 10] <|
oo (.proj 2) [11] <|
oo (.iar .mul .u64) [12, kI 6364136223846793005] <|
oo (.i2i .u64) [5] <|
oo (.iar .add .u64) [13, 14] <|
oo (.iar .add .u64) [15, kI 1442695040888963407] <|
oo (.proj 0) [11] <|
oo (.proj 1) [11] <|
oo (.proj 2) [11] <|
oo .mkagg [17, 18, 16] <|
oo (.proj 1) [20] <|
oo (.proj 0) [20] <|
oo .len [22] <|
oo (.icm .leq) [21, 23] <|
.ite 24
 (.out 0 [5, 20])
 (oo (.proj 2) [20] <|
 oo (.shf .shr .u64) [25, kI 40] <|
 oo (.ibt .and .u64) [26, kI 255] <|
 oo (.i2i .i64) [27] <|
 .out 0 [28, 20])))
def S541 (_G : Told) (_fuel : Nat) (x0 : D) : Option (Nat × List D) :=
 (gev none (.proj 1) [x0]).bind fun x1 =>
 (gev none (.proj 0) [x0]).bind fun x2 =>
 (gev none .len [x2]).bind fun x3 =>
 (gev none (.icm .lss) [x1, x3]).bind fun x4 =>
 tjoin 1 (
  tif x4 (
   (gev none (.proj 0) [x0]).bind fun x5 =>
   (gev none (.proj 1) [x0]).bind fun x6 =>
   (gev none .idx [x5, x6]).bind fun x7 =>
   (gev none (.i2i .i64) [x7]).bind fun x8 =>
   some (0, [x8])) (
   some (0, [.int 0]))) fun e5 =>
 (gev none (.proj 1) [x0]).bind fun x6 =>
 (gev none (.iar .add .i64) [x6, .int 1]).bind fun x7 =>
 (gev none (.proj 0) [x0]).bind fun x8 =>
 (gev none (.proj 1) [x0]).bind fun _x9 =>
 (gev none (.proj 2) [x0]).bind fun x10 =>
 (gev none .mkagg [x8, x7, x10]).bind fun x11 =>
 (gev none (.proj 2) [x11]).bind fun x12 =>
 (gev none (.iar .mul .u64) [x12, .int 6364136223846793005]).bind fun x13 =>
 (gev none (.i2i .u64) [e5.getD 0 .undef]).bind fun x14 =>
 (gev none (.iar .add .u64) [x13, x14]).bind fun x15 =>
 (gev none (.iar .add .u64) [x15, .int 1442695040888963407]).bind fun x16 =>
 (gev none (.proj 0) [x11]).bind fun x17 =>
 (gev none (.proj 1) [x11]).bind fun x18 =>
 (gev none (.proj 2) [x11]).bind fun _x19 =>
 (gev none .mkagg [x17, x18, x16]).bind fun x20 =>
 (gev none (.proj 1) [x20]).bind fun x21 =>
 (gev none (.proj 0) [x20]).bind fun x22 =>
 (gev none .len [x22]).bind fun x23 =>
 (gev none (.icm .leq) [x21, x23]).bind fun x24 =>
 tif x24 (
  some (0, [e5.getD 0 .undef, x20])) (
  (gev none (.proj 2) [x20]).bind fun x25 =>
  (gev none (.shf .shr .u64) [x25, .int 40]).bind fun x26 =>
  (gev none (.ibt .and .u64) [x26, .int 255]).bind fun x27 =>
  (gev none (.i2i .i64) [x27]).bind fun x28 =>
  some (0, [x28, x20]))
theorem eq541 {G fuel} (x0) : run G fuel T541 [x0] = S541 G fuel x0 := by rw [run_eq]; kernel_rfl
def T542 : T :=
(oo (.icm .leq) [1, kI 1] <|
.ite 2
 (.out 0 [kI 0, 0])
 (cc 541 [0] 2 <|
 oo (.icm .gtr) [1, kI 200] <|
 .join 2
  (.ite 5
   (oo (.iar .mul .i64) [3, kI 256] <|
   cc 541 [4] 2 <|
   oo (.iar .add .i64) [6, 7] <|
   .out 0 [8, 9])
   (.out 0 [4, 3]))
 (oo (.idv .rem .i64) [7, 1] <|
 .out 0 [8, 6])))
def S542 (G : Told) (_fuel : Nat) (x0 x1 : D) : Option (Nat × List D) :=
 (gev none (.icm .leq) [x1, .int 1]).bind fun x2 =>
 tif x2 (
  some (0, [.int 0, x0])) (
  (gcall G none 541 [x0] 2).bind fun e3 =>
  (gev none (.icm .gtr) [x1, .int 200]).bind fun x5 =>
  tjoin 2 (
   tif x5 (
    (gev none (.iar .mul .i64) [e3.getD 0 .undef, .int 256]).bind fun x6 =>
    (gcall G none 541 [e3.getD 1 .undef] 2).bind fun e7 =>
    (gev none (.iar .add .i64) [x6, e7.getD 0 .undef]).bind fun x9 =>
    some (0, [e7.getD 1 .undef, x9])) (
    some (0, [e3.getD 1 .undef, e3.getD 0 .undef]))) fun e6 =>
  (gev none (.idv .rem .i64) [e6.getD 1 .undef, x1]).bind fun x8 =>
  some (0, [x8, e6.getD 0 .undef]))
theorem eq542 {G fuel} (x0 x1) : run G fuel T542 [x0, x1] = S542 G fuel x0 x1 := by rw [run_eq]; kernel_rfl
def T543 : T :=
(cc 540 [0] 1 <|
cc 151 [1, 2] 2 <|
.join 6
 (.loop [3, 4, kI 0]
  (oo .len [7] <|
  oo (.icm .lss) [8, 9] <|
  .ite 10
   (cc 542 [6, kI 9] 2 <|
   oo (.iar .sub .i64) [11, kI 4] <|
   oo (.i2f .f32) [13] <|
   oo (.far .quo .f32) [14, kF 1090519040] <|
   cc 542 [12, kI 9] 2 <|
   oo (.iar .sub .i64) [16, kI 4] <|
   oo (.i2f .f32) [18] <|
   oo (.far .quo .f32) [19, kF 1090519040] <|
   cc 542 [17, kI 9] 2 <|
   oo (.iar .sub .i64) [21, kI 4] <|
   oo (.i2f .f32) [23] <|
   oo (.far .quo .f32) [24, kF 1090519040] <|
   oo .idx [7, 8] <|
   oo .idx [7, 8] <|
   oo (.proj 0) [27] <|
   oo (.proj 1) [27] <|
   oo (.proj 2) [27] <|
   cc 30 [28, 29, 30, 15, 20, 25] 3 <|
   oo .idx [7, 8] <|
   oo .mkagg [31, 32, 33] <|
   oo .set [7, 8, 35] <|
   oo (.iar .add .i64) [8, kI 1] <|
   .out 0 [22, 36, 37])
   (.out 1 [6, 7, 8, 8, 9, 10])))
(.out 0 [7, 5]))
def S543L0 (G : Told) : List D → Option (Nat × List D) := fun e6 =>
   (gev none .len [e6.getD 1 .undef]).bind fun x9 =>
   (gev none (.icm .lss) [e6.getD 2 .undef, x9]).bind fun x10 =>
   tif x10 (
    (gcall G none 542 [e6.getD 0 .undef, .int 9] 2).bind fun e11 =>
    (gev none (.iar .sub .i64) [e11.getD 0 .undef, .int 4]).bind fun x13 =>
    (gev none (.i2f .f32) [x13]).bind fun x14 =>
    (gev none (.far .quo .f32) [x14, .flt 1090519040]).bind fun x15 =>
    (gcall G none 542 [e11.getD 1 .undef, .int 9] 2).bind fun e16 =>
    (gev none (.iar .sub .i64) [e16.getD 0 .undef, .int 4]).bind fun x18 =>
    (gev none (.i2f .f32) [x18]).bind fun x19 =>
    (gev none (.far .quo .f32) [x19, .flt 1090519040]).bind fun x20 =>
    (gcall G none 542 [e16.getD 1 .undef, .int 9] 2).bind fun e21 =>
    (gev none (.iar .sub .i64) [e21.getD 0 .undef, .int 4]).bind fun x23 =>
    (gev none (.i2f .f32) [x23]).bind fun x24 =>
    (gev none (.far .quo .f32) [x24, .flt 1090519040]).bind fun x25 =>
    (gev none .idx [e6.getD 1 .undef, e6.getD 2 .undef]).bind fun _x26 =>
    (gev none .idx [e6.getD 1 .undef, e6.getD 2 .undef]).bind fun x27 =>
    (gev none (.proj 0) [x27]).bind fun x28 =>
    (gev none (.proj 1) [x27]).bind fun x29 =>
    (gev none (.proj 2) [x27]).bind fun x30 =>
    (gcall G none 30 [x28, x29, x30, x15, x20, x25] 3).bind fun e31 =>
    (gev none .idx [e6.getD 1 .undef, e6.getD 2 .undef]).bind fun _x34 =>
    (gev none .mkagg [e31.getD 0 .undef, e31.getD 1 .undef, e31.getD 2 .undef]).bind fun x35 =>
    (gev none .set [e6.getD 1 .undef, e6.getD 2 .undef, x35]).bind fun x36 =>
    (gev none (.iar .add .i64) [e6.getD 2 .undef, .int 1]).bind fun x37 =>
    some (0, [e21.getD 1 .undef, x36, x37])) (
    some (1, [e6.getD 0 .undef, e6.getD 1 .undef, e6.getD 2 .undef, e6.getD 2 .undef, x9, x10]))
def S543 (G : Told) (fuel : Nat) (x0 x1 x2 : D) : Option (Nat × List D) :=
 (gcall G none 540 [x0] 1).bind fun e3 =>
 (gcall G none 151 [x1, x2] 2).bind fun e4 =>
 tjoin 6 (
  iter (tbody 3 (S543L0 G )) fuel [e3.getD 0 .undef, e4.getD 0 .undef, .int 0]) fun e6 =>
 some (0, [e6.getD 1 .undef, e4.getD 1 .undef])
theorem eq543 {G fuel} (x0 x1 x2) : run G fuel T543 [x0, x1, x2] = S543 G fuel x0 x1 x2 := by rw [run_eq]; kernel_rfl
attribute [local irreducible] IntKind.wrap il tl vl bxD sdN topA topB fdiv i2f szM

theorem run540 {G : Told} : Runs G F540 T540 := by
 intro ds rs h
 unfold F540 at h
 split at h
 case h_2 => cases h
 rename_i a
 obtain ⟨cs, ha, h⟩ := Option.bind_eq_some_iff.1 h
 rw [dI_inv ha]
 simp only [Option.some.injEq] at h
 subst h
 refine ⟨0, ?_⟩
 rw [eq540]
 unfold S540
 refine st_some b_mk ?_
 rfl
theorem next_run {G : Told} {cs : List Int} {k sd : Int} (hb : bytes cs) (h0 : 0 ≤ k) (h1 : k ≤ 1000000) : S541 G 0 (bxD cs k sd) = some (0, [.int (nxtV cs k sd), bxD cs (k + 1) (sdN sd (byt cs k))]) := by
 have hbr := byt_rng hb k
 have e1 : IntKind.wrap .i64 (k + 1) = k + 1 := wrap_i (by omega) (by omega)
 have ea : gev none (.iar .add .i64) [.int k, .int 1] = some (.int (k + 1)) := by rw [u_add, e1]
 have es : ∀ b, gev none (.iar .add .u64) [.int (IntKind.wrap .u64 (IntKind.wrap .u64 (sd * 6364136223846793005) + IntKind.wrap .u64 b)), .int 1442695040888963407] = some (.int (sdN sd b)) := fun b => by rw [u_addu]; unfold sdN; rfl
 have tail : ∀ b, b = byt cs k → (
   (gev none (.proj 1) [bxD cs k sd]).bind fun x6 =>
   (gev none (.iar .add .i64) [x6, (.int 1)]).bind fun x7 =>
   (gev none (.proj 0) [bxD cs k sd]).bind fun x8 =>
   (gev none (.proj 1) [bxD cs k sd]).bind fun _x9 =>
   (gev none (.proj 2) [bxD cs k sd]).bind fun x10 =>
   (gev none .mkagg [x8, x7, x10]).bind fun x11 =>
   (gev none (.proj 2) [x11]).bind fun x12 =>
   (gev none (.iar .mul .u64) [x12, (.int 6364136223846793005)]).bind fun x13 =>
   (gev none (.i2i .u64) [.int b]).bind fun x14 =>
   (gev none (.iar .add .u64) [x13, x14]).bind fun x15 =>
   (gev none (.iar .add .u64) [x15, (.int 1442695040888963407)]).bind fun x16 =>
   (gev none (.proj 0) [x11]).bind fun x17 =>
   (gev none (.proj 1) [x11]).bind fun x18 =>
   (gev none (.proj 2) [x11]).bind fun _x19 =>
   (gev none .mkagg [x17, x18, x16]).bind fun x20 =>
   (gev none (.proj 1) [x20]).bind fun x21 =>
   (gev none (.proj 0) [x20]).bind fun x22 =>
   (gev none .len [x22]).bind fun x23 =>
   (gev none (.icm .leq) [x21, x23]).bind fun x24 =>
   tif x24 (
    some (0, [.int b, x20])) (
    (gev none (.proj 2) [x20]).bind fun x25 =>
    (gev none (.shf .shr .u64) [x25, (.int 40)]).bind fun x26 =>
    (gev none (.ibt .and .u64) [x26, (.int 255)]).bind fun x27 =>
    (gev none (.i2i .i64) [x27]).bind fun x28 =>
    some (0, [x28, x20]))) = some (0, [.int (nxtV cs k sd), bxD cs (k + 1) (sdN sd (byt cs k))]) := by
  intro b hbb;subst hbb;refine st_some b_1 ?_;refine st_some ea ?_;refine st_some b_0 ?_;refine st_some b_1 ?_;refine st_some b_2 ?_;refine st_some b_mk ?_;refine st_some b_2 ?_;refine st_some u_mulu ?_;refine st_some u_cu ?_;refine st_some u_addu ?_;refine st_some (es _) ?_;refine st_some b_0 ?_;refine st_some b_1 ?_;refine st_some b_2 ?_;refine st_some b_mk ?_;refine st_some b_1 ?_;refine st_some b_0 ?_;refine st_some len_il ?_;unfold nxtV
  by_cases hl : k + 1 ≤ (cs.length : Int)
  ·rw [if_pos hl]
   refine st_some (u_leq.trans (congrArg (fun b => some (D.bool b)) (decide_eq_true hl))) ?_
   rfl
  ·rw [if_neg hl]
   refine st_some (u_leq.trans (congrArg (fun b => some (D.bool b)) (decide_eq_false hl))) ?_
   refine st_iff ?_;refine st_some b_2 ?_;refine st_some u_shr ?_;refine st_some u_and ?_;refine st_some u_ci ?_;rfl
 unfold S541
 refine st_some b_1 ?_
 refine st_some b_0 ?_
 refine st_some len_il ?_
 by_cases hk : k < (cs.length : Int)
 ·refine st_some (u_lss.trans (congrArg (fun b => some (D.bool b)) (decide_eq_true hk))) ?_
  have hi : gev none .idx [il cs, .int k] = some (.int (byt cs k)) := by
   have := idx_il (l := cs) (i := k.toNat) (by omega)
   rw [Int.toNat_of_nonneg h0] at this;rw [this];unfold byt;rw [if_pos hk, getD_lt (by omega)]
  have hw : gev none (.i2i .i64) [.int (byt cs k)] = some (.int (byt cs k)) := by rw [u_ci, wrap_i (by omega) (by omega)]
  refine st_join (ds := [.int (byt cs k)]) ?_ rfl ?_
  ·refine st_ift ?_
   refine st_some b_0 ?_;refine st_some b_1 ?_;refine st_some hi ?_;refine st_some hw ?_;rfl
  ·exact tail _ rfl
 ·refine st_some (u_lss.trans (congrArg (fun b => some (D.bool b)) (decide_eq_false hk))) ?_
  refine st_join (ds := [.int 0]) rfl rfl ?_;exact tail 0 (by unfold byt; rw [if_neg hk])
theorem run541 {G : Told} : Runs G F541 T541 := by
 intro ds rs h
 unfold F541 at h
 split at h
 case h_2 => cases h
 rename_i a k sd
 obtain ⟨cs, ha, h⟩ := Option.bind_eq_some_iff.1 h
 split at h
 case isFalse => cases h
 rename_i hc
 simp only [Option.some.injEq] at h
 subst h
 refine ⟨0, ?_⟩
 rw [dI_inv ha, show D.agg [il cs, .int k, .int sd] = bxD cs k sd by unfold bxD; rfl, eq541]
 exact next_run hc.1 hc.2.1 hc.2.2
theorem run542 {G : Told} (g541 : G 541 = F541) : Runs G F542 T542 := by
 intro ds rs h
 unfold F542 at h
 split at h
 case h_2 => cases h
 rename_i a k sd n
 obtain ⟨cs, ha, h⟩ := Option.bind_eq_some_iff.1 h
 split at h
 case isFalse => cases h
 rename_i hc
 simp only [Option.some.injEq] at h
 subst h
 obtain ⟨hb, ⟨h0, h1⟩, h2, h3⟩ := hc
 refine ⟨0, ?_⟩
 rw [dI_inv ha, show D.agg [il cs, .int k, .int sd] = bxD cs k sd by unfold bxD; rfl, eq542]
 unfold S542
 have c1 : gcall G none 541 [bxD cs k sd] 2 = some [.int (nxtV cs k sd), bxD cs (k + 1) (sdN sd (byt cs k))] := gcall_on g541 rfl (F541_m hb h0 h1) rfl
 have hm : gev none (.idv .rem .i64) [.int (nxtV cs k sd), .int n] = some (.int ((nxtV cs k sd).tmod n)) := by
  simp only [gev, gok, if_true, Prim.ev, idiv];rw [if_neg (by omega)]
  rfl
 refine st_some (u_leq.trans (congrArg (fun b => some (D.bool b)) (decide_eq_false (by omega)))) ?_
 refine st_iff ?_
 refine st_some c1 ?_
 refine st_some (u_gtr.trans (congrArg (fun b => some (D.bool b)) (decide_eq_false (by omega)))) ?_
 refine st_join (ds := [bxD cs (k + 1) (sdN sd (byt cs k)), .int (nxtV cs k sd)]) rfl rfl ?_
 refine st_some hm ?_
 rfl
theorem move_loop {G : Told} (g542 : G 542 = F542) (g30 : G 30 = F30) {cs : List Int} {vs : List V3} (hb : bytes cs) (hn : vs.length ≤ 1000) {F : Nat} (hF : 1000 < F) : iter (tbody 3 (S543L0 G)) F [bxD cs 0 0, vl vs, .int 0] = some (0, [bxD cs ((3 * vs.length : Nat) : Int) (sdA cs (3 * vs.length)), vl (mvA cs vs), .int (vs.length : Int), .int (vs.length : Int), .int (vs.length : Int), .bool false]) := by
 have e0 : mvN cs vs 0 = vs := by rw [mvN]
 have e1 : sdA cs 0 = 0 := by rw [sdA]
 have h1 := iter_to (body := tbody 3 (S543L0 G)) (n := vs.length) (f := F) (l := 0) (ds := [bxD cs ((3 * vs.length : Nat) : Int) (sdA cs (3 * vs.length)), vl (mvA cs vs), .int (vs.length : Int), .int (vs.length : Int), .int (vs.length : Int), .bool false]) (fun i => [bxD cs ((3 * i : Nat) : Int) (sdA cs (3 * i)), vl (mvN cs vs i), .int (i : Int)]) (by omega) (fun i hi => ?_) ?_
 ·simp only [e0, e1, Nat.mul_zero] at h1
  exact h1
 ·refine tb rfl ?_
  have hl := mvN_len cs vs i
  have pk : ∀ j : Nat, j < 3000 → gcall G none 542 [bxD cs (j : Int) (sdA cs j), .int 9] 2 = some [.int (pkN cs j), bxD cs ((j + 1 : Nat) : Int) (sdA cs (j + 1))] := fun j hj => gcall_on g542 rfl (by
   rw [F542_m hb (by omega) (by omega) (by omega) (by omega)]
   rw [sdA]
   rfl) rfl
  have sb : ∀ j : Nat, gev none (.iar .sub .i64) [.int (pkN cs j), .int 4] = some (.int (pkN cs j - 4)) := fun j => by have := pkN_rng hb j;rw [u_sub, wrap_i (by omega) (by omega)]
  have fd : ∀ j : Nat, gev none (.far .quo .f32) [.flt (i2f .f32 (pkN cs j - 4)), .flt 1090519040] = some (.flt (offF cs j)) := fun j => by rw [u_quo]; unfold offF; rfl
  have h0 : gev none (.icm .lss) [.int (i : Int), .int ((mvN cs vs i).length : Int)] = some (.bool true) := u_lss.trans (congrArg (fun b => some (D.bool b)) (decide_eq_true (by omega)))
  have hx : gev none .idx [vl (mvN cs vs i), .int (i : Int)] = some (vec ((mvN cs vs i).getD i ⟨0, 0, 0⟩)) := by rw [idx_vl (by omega), getD_lt (by omega)]
  have hs : mvN cs vs (i + 1) = (mvN cs vs i).set i (mvV cs i ((mvN cs vs i).getD i ⟨0, 0, 0⟩)) := by rw [mvN]
  have hset := set_vl (l := mvN cs vs i) (i := i) (v := mvV cs i ((mvN cs vs i).getD i ⟨0, 0, 0⟩)) (by omega)
  have hadd := add1n (i := i) (by omega)
  rw [hs, show 3 * (i + 1) = 3 * i + 1 + 1 + 1 by omega]
  generalize (mvN cs vs i).getD i ⟨0, 0, 0⟩ = v at *;have c30 : gcall G none 30 [.flt v.x, .flt v.y, .flt v.z, .flt (offF cs (3 * i)), .flt (offF cs (3 * i + 1)), .flt (offF cs (3 * i + 1 + 1))] 3 = some [.flt (mvV cs i v).x, .flt (mvV cs i v).y, .flt (mvV cs i v).z] := gcall_on g30 rfl rfl rfl;generalize mvV cs i v = u at *;unfold S543L0;refine st_some len_vl ?_;refine st_some h0 ?_;refine st_ift ?_;refine st_some (pk (3 * i) (by omega)) ?_
  refine st_some (sb _) ?_;refine st_some u_i2f ?_;refine st_some (fd _) ?_;refine st_some (pk (3 * i + 1) (by omega)) ?_
  refine st_some (sb _) ?_;refine st_some u_i2f ?_;refine st_some (fd _) ?_;refine st_some (pk (3 * i + 1 + 1) (by omega)) ?_
  refine st_some (sb _) ?_;refine st_some u_i2f ?_;refine st_some (fd _) ?_;refine st_some hx ?_;refine st_some hx ?_;refine st_some u_v0 ?_;refine st_some u_v1 ?_;refine st_some u_v2 ?_;refine st_some c30 ?_;refine st_some hx ?_;refine st_some u_agg ?_;refine st_some hset ?_;refine st_some hadd ?_;rfl
 ·refine tb rfl ?_
  have hl := mvN_len cs vs vs.length;have h0 : gev none (.icm .lss) [.int (vs.length : Int), .int ((mvN cs vs vs.length).length : Int)] = some (.bool false) := u_lss.trans (congrArg (fun b => some (D.bool b)) (decide_eq_false (by omega)))
  unfold S543L0;refine st_some len_vl ?_;refine st_some h0 ?_;rw [hl];rfl
theorem run543 {G : Told} (g30 : G 30 = F30) (g151 : G 151 = F151) (g540 : G 540 = F540) (g542 : G 542 = F542) : Runs G F543 T543 := by
 intro ds rs h
 unfold F543 at h
 split at h
 case h_2 => cases h
 rename_i c a b
 obtain ⟨cs, hc, h⟩ := Option.bind_eq_some_iff.1 h
 obtain ⟨vs, ha, h⟩ := Option.bind_eq_some_iff.1 h
 obtain ⟨ts, hb, h⟩ := Option.bind_eq_some_iff.1 h
 rw [dI_inv hc, dV_inv ha, dT_inv hb]
 split at h
 case isFalse => cases h
 rename_i hh
 simp only [Option.some.injEq] at h
 subst h
 obtain ⟨F, hF⟩ : ∃ F : Nat, 1000 < F := ⟨1001, by omega⟩
 refine ⟨F, ?_⟩
 rw [eq543]
 unfold S543
 have k1 : gcall G none 540 [il cs] 1 = some [bxD cs 0 0] := gcall_on g540 rfl (by simp only [F540, dI_il, Option.bind_some]) rfl
 have k2 : gcall G none 151 [vl vs, tl ts] 2 = some [vl vs, tl ts] := gcall_on g151 rfl (F145_m hh.2.1) rfl
 refine st_some k1 ?_
 refine st_some k2 ?_
 refine st_join (move_loop g542 g30 hh.1 hh.2.2 hF) rfl ?_
 rfl
end Vs
