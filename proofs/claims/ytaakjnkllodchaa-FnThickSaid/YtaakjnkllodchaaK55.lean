/-
  Meshes that are the same: what SameMesh answers for a mesh and itself; SameForm.
-/
import Derived.Test.YtaakjnkllodchaaK8
import Derived.Test.YtaakjnkllodchaaK28
import Derived.Test.YtaakjnkllodchaaMf5
set_option maxHeartbeats 4000000
namespace Vs
open Go Ieee
noncomputable def F484 : List D → Option (List D)
 | [a, b] => (dI a).bind fun l => (dI b).bind fun m => if l = m ∧ l.length ≤ 1000000 then some [.bool true] else none
 | _ => none
noncomputable def F483 : List D → Option (List D) := F484
noncomputable def F482 : List D → Option (List D)
 | [a, b] => (dT a).bind fun l => (dT b).bind fun m => if (l = m ∨ l.length ≠ m.length) ∧ l.length + totL l ≤ 1000000 ∧ m.length ≤ 1000000 then some [.bool (decide (l = m))] else none
 | _ => none
noncomputable def F481 : List D → Option (List D) := F482
noncomputable def F480 : List D → Option (List D)
 | [a, b, c, d] => (dV a).bind fun vs => (dT b).bind fun ts => (dV c).bind fun us => (dT d).bind fun ss =>
  if us.length = vs.length ∧ (ts = ss ∨ ts.length ≠ ss.length) ∧ (szM vs ts ≤ 1000000 ∧ szM us ss ≤ 1000000) ∧ validP vs.length ts = true ∧ validP us.length ss = true then some [.bool (decide (ts = ss))] else none
 | _ => none
theorem F484_m {l : List Int} (h : l.length ≤ 1000000) : F484 [il l, il l] = some [.bool true] := by simp [F484, dI_il, h]
theorem F482_g {l m : List (List Int)} (h : l = m ∨ l.length ≠ m.length) (h1 : l.length + totL l ≤ 1000000) (h2 : m.length ≤ 1000000) : F482 [tl l, tl m] = some [.bool (decide (l = m))] := by
 simp only [F482, dT_tl, Option.bind_some]
 rw [if_pos ⟨h, h1, h2⟩]
theorem F482_m {l : List (List Int)} (h : l.length + totL l ≤ 1000000) : F482 [tl l, tl l] = some [.bool true] := by rw [F482_g (.inl rfl) h (by omega), decide_eq_true rfl]
theorem F480_g {vs us : List V3} {ts ss : List (List Int)} (h : us.length = vs.length) (h0 : ts = ss ∨ ts.length ≠ ss.length) (h1 : szM vs ts ≤ 1000000) (h2 : szM us ss ≤ 1000000) (hv : validP vs.length ts = true) (hu : validP us.length ss = true) : F480 [vl vs, tl ts, vl us, tl ss] = some [.bool (decide (ts = ss))] := by
 simp only [F480, dT_tl, dV_vl, Option.bind_some]
 rw [if_pos ⟨h, h0, ⟨h1, h2⟩, hv, hu⟩]
def finV (v : V3) : Prop := rk .f32 v.x < inf .f32 ∧ rk .f32 v.y < inf .f32 ∧ rk .f32 v.z < inf .f32
instance (v : V3) : Decidable (finV v) := inferInstanceAs (Decidable (_ ∧ _))
def sgb (x : Nat) : Bool := decide (IntKind.wrap .i64 (x : Int) < 0)
def F567 : List D → Option (List D)
 | [.flt x] => if isnan .f64 x = false then some [.bool (sgb x)] else none
 | _ => none
def F566 : List D → Option (List D)
 | [.flt x, .flt y] => if x = y ∧ (rk .f32 x < inf .f32 ∨ feq .f32 x x = false) then some [.bool true] else none
 | _ => none
def F565 : List D → Option (List D)
 | [.flt x, .flt y, .flt z, .flt a, .flt b, .flt c] => if (x = a ∧ y = b ∧ z = c) ∧ finV ⟨x, y, z⟩ then some [.bool true] else none
 | _ => none
open Classical in
noncomputable def F564 : List D → Option (List D)
 | [a, b] => (dV a).bind fun l => (dV b).bind fun m => if l = m ∧ l.length ≤ 1000000 ∧ ∀ v ∈ l, finV v then some [.bool true] else none
 | _ => none
open Classical in
noncomputable def F563 : List D → Option (List D)
 | [a, b, c, d] => (dV a).bind fun vs => (dT b).bind fun ts => (dV c).bind fun us => (dT d).bind fun ss =>
  if (vs = us ∧ ts = ss) ∧ szM vs ts ≤ 1000000 ∧ ∀ v ∈ vs, finV v then some [.bool true] else none
 | _ => none
theorem F563_m {vs : List V3} {ts : List (List Int)} (h : szM vs ts ≤ 1000000) (hf : ∀ v ∈ vs, finV v) : F563 [vl vs, tl ts, vl vs, tl ts] = some [.bool true] := by
 simp only [F563, dV_vl, dT_tl, Option.bind_some, true_and, and_self]
 exact if_pos ⟨h, hf⟩
theorem F564_m {vs : List V3} (h : vs.length ≤ 1000000) (hf : ∀ v ∈ vs, finV v) : F564 [vl vs, vl vs] = some [.bool true] := by
 simp only [F564, dV_vl, Option.bind_some, true_and]
 exact if_pos ⟨h, hf⟩
def T484 : T :=
(oo .len [0] <|
oo .len [1] <|
oo (.icm .neq) [2, 3] <|
.ite 4
 (.out 0 [kN])
 (oo .len [0] <|
 .join 2
  (.loop [kI 0]
   (oo (.icm .lss) [6, 5] <|
   .ite 7
    (oo .idx [0, 6] <|
    oo .idx [1, 6] <|
    oo (.icm .neq) [8, 9] <|
    .ite 10
     (.out 2 [kN])
     (oo (.iar .add .i64) [6, kI 1] <|
     .out 0 [11]))
    (.out 1 [6, 7])))
 (.out 0 [kT])))
def S484L0 (_G : Told) (x0 : D) (x1 : D) (x5 : D) : List D → Option (Nat × List D) := fun e6 =>
    (gev none (.icm .lss) [e6.getD 0 .undef, x5]).bind fun x7 =>
    tif x7 (
     (gev none .idx [x0, e6.getD 0 .undef]).bind fun x8 =>
     (gev none .idx [x1, e6.getD 0 .undef]).bind fun x9 =>
     (gev none (.icm .neq) [x8, x9]).bind fun x10 =>
     tif x10 (
      some (2, [.bool false])) (
      (gev none (.iar .add .i64) [e6.getD 0 .undef, .int 1]).bind fun x11 =>
      some (0, [x11]))) (
     some (1, [e6.getD 0 .undef, x7]))
def S484 (G : Told) (fuel : Nat) (x0 x1 : D) : Option (Nat × List D) :=
 (gev none .len [x0]).bind fun x2 =>
 (gev none .len [x1]).bind fun x3 =>
 (gev none (.icm .neq) [x2, x3]).bind fun x4 =>
 tif x4 (
  some (0, [.bool false])) (
  (gev none .len [x0]).bind fun x5 =>
  tjoin 2 (
   iter (tbody 1 (S484L0 G x0 x1 x5)) fuel [.int 0]) fun _e6 =>
  some (0, [.bool true]))
theorem eq484 {G fuel} (x0 x1) : run G fuel T484 [x0, x1] = S484 G fuel x0 x1 := by rw [run_eq]; kernel_rfl
def T483 : T :=
(cc 484 [0, 1] 1 <|
.out 0 [2])
def S483 (G : Told) (_fuel : Nat) (x0 x1 : D) : Option (Nat × List D) :=
 (gcall G none 484 [x0, x1] 1).bind fun e2 =>
 some (0, [e2.getD 0 .undef])
theorem eq483 {G fuel} (x0 x1) : run G fuel T483 [x0, x1] = S483 G fuel x0 x1 := by rw [run_eq]; kernel_rfl
def T482 : T :=
(oo .len [0] <|
oo .len [1] <|
oo (.icm .neq) [2, 3] <|
.ite 4
 (.out 0 [kN])
 (oo .len [0] <|
 .join 2
  (.loop [kI 0]
   (oo (.icm .lss) [6, 5] <|
   .ite 7
    (oo .idx [0, 6] <|
    oo .idx [1, 6] <|
    cc 483 [8, 9] 1 <|
    oo .bnot [10] <|
    .ite 11
     (.out 2 [kN])
     (oo (.iar .add .i64) [6, kI 1] <|
     .out 0 [12]))
    (.out 1 [6, 7])))
 (.out 0 [kT])))
def S482L0 (G : Told) (x0 : D) (x1 : D) (x5 : D) : List D → Option (Nat × List D) := fun e6 =>
    (gev none (.icm .lss) [e6.getD 0 .undef, x5]).bind fun x7 =>
    tif x7 (
     (gev none .idx [x0, e6.getD 0 .undef]).bind fun x8 =>
     (gev none .idx [x1, e6.getD 0 .undef]).bind fun x9 =>
     (gcall G none 483 [x8, x9] 1).bind fun e10 =>
     (gev none .bnot [e10.getD 0 .undef]).bind fun x11 =>
     tif x11 (
      some (2, [.bool false])) (
      (gev none (.iar .add .i64) [e6.getD 0 .undef, .int 1]).bind fun x12 =>
      some (0, [x12]))) (
     some (1, [e6.getD 0 .undef, x7]))
def S482 (G : Told) (fuel : Nat) (x0 x1 : D) : Option (Nat × List D) :=
 (gev none .len [x0]).bind fun x2 =>
 (gev none .len [x1]).bind fun x3 =>
 (gev none (.icm .neq) [x2, x3]).bind fun x4 =>
 tif x4 (
  some (0, [.bool false])) (
  (gev none .len [x0]).bind fun x5 =>
  tjoin 2 (
   iter (tbody 1 (S482L0 G x0 x1 x5)) fuel [.int 0]) fun _e6 =>
  some (0, [.bool true]))
theorem eq482 {G fuel} (x0 x1) : run G fuel T482 [x0, x1] = S482 G fuel x0 x1 := by rw [run_eq]; kernel_rfl
def T481 : T :=
(cc 482 [0, 1] 1 <|
.out 0 [2])
def S481 (G : Told) (_fuel : Nat) (x0 x1 : D) : Option (Nat × List D) :=
 (gcall G none 482 [x0, x1] 1).bind fun e2 =>
 some (0, [e2.getD 0 .undef])
theorem eq481 {G fuel} (x0 x1) : run G fuel T481 [x0, x1] = S481 G fuel x0 x1 := by rw [run_eq]; kernel_rfl
def T480 : T :=
(cc 150 [0, 1] 1 <|
cT 4 150 [2, 3] 1 <|
oo .pick [4, 5, kN] <|
oT 6 .id [0] <|
oT 6 .len [7] <|
oT 6 .id [2] <|
oT 6 .len [9] <|
oT 6 (.icm .eql) [8, 10] <|
oo .pick [6, 11, kN] <|
oT 12 .id [1] <|
oT 12 .id [3] <|
cT 12 481 [13, 14] 1 <|
oo .pick [12, 15, kN] <|
.out 0 [16])
def S480 (G : Told) (_fuel : Nat) (x0 x1 x2 x3 : D) : Option (Nat × List D) :=
 (gcall G none 150 [x0, x1] 1).bind fun e4 =>
 (gcall G (some ((e4.getD 0 .undef), true)) 150 [x2, x3] 1).bind fun e5 =>
 (gev none .pick [e4.getD 0 .undef, e5.getD 0 .undef, .bool false]).bind fun x6 =>
 (gev (some (x6, true)) .id [x0]).bind fun x7 =>
 (gev (some (x6, true)) .len [x7]).bind fun x8 =>
 (gev (some (x6, true)) .id [x2]).bind fun x9 =>
 (gev (some (x6, true)) .len [x9]).bind fun x10 =>
 (gev (some (x6, true)) (.icm .eql) [x8, x10]).bind fun x11 =>
 (gev none .pick [x6, x11, .bool false]).bind fun x12 =>
 (gev (some (x12, true)) .id [x1]).bind fun x13 =>
 (gev (some (x12, true)) .id [x3]).bind fun x14 =>
 (gcall G (some (x12, true)) 481 [x13, x14] 1).bind fun e15 =>
 (gev none .pick [x12, e15.getD 0 .undef, .bool false]).bind fun x16 =>
 some (0, [x16])
theorem eq480 {G fuel} (x0 x1 x2 x3) : run G fuel T480 [x0, x1, x2, x3] = S480 G fuel x0 x1 x2 x3 := by rw [run_eq]; kernel_rfl
def T563 : T :=
(cc 564 [0, 2] 1 <|
oT 4 .id [1] <|
oT 4 .id [3] <|
cT 4 481 [5, 6] 1 <|
oo .pick [4, 7, kN] <|
.out 0 [8])
def S563 (G : Told) (_fuel : Nat) (x0 x1 x2 x3 : D) : Option (Nat × List D) :=
 (gcall G none 564 [x0, x2] 1).bind fun e4 =>
 (gev (some ((e4.getD 0 .undef), true)) .id [x1]).bind fun x5 =>
 (gev (some ((e4.getD 0 .undef), true)) .id [x3]).bind fun x6 =>
 (gcall G (some ((e4.getD 0 .undef), true)) 481 [x5, x6] 1).bind fun e7 =>
 (gev none .pick [e4.getD 0 .undef, e7.getD 0 .undef, .bool false]).bind fun x8 =>
 some (0, [x8])
theorem eq563 {G fuel} (x0 x1 x2 x3) : run G fuel T563 [x0, x1, x2, x3] = S563 G fuel x0 x1 x2 x3 := by rw [run_eq]; kernel_rfl
def T564 : T :=
(oo .len [0] <|
oo .len [1] <|
oo (.icm .neq) [2, 3] <|
.ite 4
 (.out 0 [kN])
 (oo .len [0] <|
 .join 2
  (.loop [kI 0]
   (oo (.icm .lss) [6, 5] <|
   .ite 7
    (oo .idx [0, 6] <|
    oo (.proj 0) [8] <|
    oo (.proj 1) [8] <|
    oo (.proj 2) [8] <|
    oo .idx [1, 6] <|
    oo (.proj 0) [12] <|
    oo (.proj 1) [12] <|
    oo (.proj 2) [12] <|
    cc 565 [9, 10, 11, 13, 14, 15] 1 <|
    oo .bnot [16] <|
    .ite 17
     (.out 2 [kN])
     (oo (.iar .add .i64) [6, kI 1] <|
     .out 0 [18]))
    (.out 1 [6, 7])))
 (.out 0 [kT])))
def S564L0 (G : Told) (x0 : D) (x1 : D) (x5 : D) : List D → Option (Nat × List D) := fun e6 =>
    (gev none (.icm .lss) [e6.getD 0 .undef, x5]).bind fun x7 =>
    tif x7 (
     (gev none .idx [x0, e6.getD 0 .undef]).bind fun x8 =>
     (gev none (.proj 0) [x8]).bind fun x9 =>
     (gev none (.proj 1) [x8]).bind fun x10 =>
     (gev none (.proj 2) [x8]).bind fun x11 =>
     (gev none .idx [x1, e6.getD 0 .undef]).bind fun x12 =>
     (gev none (.proj 0) [x12]).bind fun x13 =>
     (gev none (.proj 1) [x12]).bind fun x14 =>
     (gev none (.proj 2) [x12]).bind fun x15 =>
     (gcall G none 565 [x9, x10, x11, x13, x14, x15] 1).bind fun e16 =>
     (gev none .bnot [e16.getD 0 .undef]).bind fun x17 =>
     tif x17 (
      some (2, [.bool false])) (
      (gev none (.iar .add .i64) [e6.getD 0 .undef, .int 1]).bind fun x18 =>
      some (0, [x18]))) (
     some (1, [e6.getD 0 .undef, x7]))
def S564 (G : Told) (fuel : Nat) (x0 x1 : D) : Option (Nat × List D) :=
 (gev none .len [x0]).bind fun x2 =>
 (gev none .len [x1]).bind fun x3 =>
 (gev none (.icm .neq) [x2, x3]).bind fun x4 =>
 tif x4 (
  some (0, [.bool false])) (
  (gev none .len [x0]).bind fun x5 =>
  tjoin 2 (
   iter (tbody 1 (S564L0 G x0 x1 x5)) fuel [.int 0]) fun _e6 =>
  some (0, [.bool true]))
theorem eq564 {G fuel} (x0 x1) : run G fuel T564 [x0, x1] = S564 G fuel x0 x1 := by rw [run_eq]; kernel_rfl
def T565 : T :=
(cc 566 [0, 3] 1 <|
oT 6 .id [1] <|
oT 6 .id [4] <|
cT 6 566 [7, 8] 1 <|
oo .pick [6, 9, kN] <|
oT 10 .id [2] <|
oT 10 .id [5] <|
cT 10 566 [11, 12] 1 <|
oo .pick [10, 13, kN] <|
.out 0 [14])
def S565 (G : Told) (_fuel : Nat) (x0 x1 x2 x3 x4 x5 : D) : Option (Nat × List D) :=
 (gcall G none 566 [x0, x3] 1).bind fun e6 =>
 (gev (some ((e6.getD 0 .undef), true)) .id [x1]).bind fun x7 =>
 (gev (some ((e6.getD 0 .undef), true)) .id [x4]).bind fun x8 =>
 (gcall G (some ((e6.getD 0 .undef), true)) 566 [x7, x8] 1).bind fun e9 =>
 (gev none .pick [e6.getD 0 .undef, e9.getD 0 .undef, .bool false]).bind fun x10 =>
 (gev (some (x10, true)) .id [x2]).bind fun x11 =>
 (gev (some (x10, true)) .id [x5]).bind fun x12 =>
 (gcall G (some (x10, true)) 566 [x11, x12] 1).bind fun e13 =>
 (gev none .pick [x10, e13.getD 0 .undef, .bool false]).bind fun x14 =>
 some (0, [x14])
theorem eq565 {G fuel} (x0 x1 x2 x3 x4 x5) : run G fuel T565 [x0, x1, x2, x3, x4, x5] = S565 G fuel x0 x1 x2 x3 x4 x5 := by rw [run_eq]; kernel_rfl
def T566 : T :=
(oo (.fcm .neq .f32) [0, 0] <|
oN 2 .id [1] <|
oN 2 .id [1] <|
oN 2 (.fcm .neq .f32) [3, 4] <|
oo .pick [2, kT, 5] <|
.ite 6
 (oo (.fcm .neq .f32) [0, 0] <|
 oT 7 .id [1] <|
 oT 7 .id [1] <|
 oT 7 (.fcm .neq .f32) [8, 9] <|
 oo .pick [7, 10, kN] <|
 .out 0 [11])
 (oo (.fcm .eql .f32) [0, 1] <|
 oT 7 .id [0] <|
 oT 7 (.f2f .f32 .f64) [8] <|
 cT 7 567 [9] 1 <|
 oT 7 .id [1] <|
 oT 7 (.f2f .f32 .f64) [11] <|
 cT 7 567 [12] 1 <|
 oT 7 .beq [10, 13] <|
 oo .pick [7, 14, kN] <|
 .out 0 [15]))
def S566 (G : Told) (_fuel : Nat) (x0 x1 : D) : Option (Nat × List D) :=
 (gev none (.fcm .neq .f32) [x0, x0]).bind fun x2 =>
 (gev (some (x2, false)) .id [x1]).bind fun x3 =>
 (gev (some (x2, false)) .id [x1]).bind fun x4 =>
 (gev (some (x2, false)) (.fcm .neq .f32) [x3, x4]).bind fun x5 =>
 (gev none .pick [x2, .bool true, x5]).bind fun x6 =>
 tif x6 (
  (gev none (.fcm .neq .f32) [x0, x0]).bind fun x7 =>
  (gev (some (x7, true)) .id [x1]).bind fun x8 =>
  (gev (some (x7, true)) .id [x1]).bind fun x9 =>
  (gev (some (x7, true)) (.fcm .neq .f32) [x8, x9]).bind fun x10 =>
  (gev none .pick [x7, x10, .bool false]).bind fun x11 =>
  some (0, [x11])) (
  (gev none (.fcm .eql .f32) [x0, x1]).bind fun x7 =>
  (gev (some (x7, true)) .id [x0]).bind fun x8 =>
  (gev (some (x7, true)) (.f2f .f32 .f64) [x8]).bind fun x9 =>
  (gcall G (some (x7, true)) 567 [x9] 1).bind fun e10 =>
  (gev (some (x7, true)) .id [x1]).bind fun x11 =>
  (gev (some (x7, true)) (.f2f .f32 .f64) [x11]).bind fun x12 =>
  (gcall G (some (x7, true)) 567 [x12] 1).bind fun e13 =>
  (gev (some (x7, true)) .beq [e10.getD 0 .undef, e13.getD 0 .undef]).bind fun x14 =>
  (gev none .pick [x7, x14, .bool false]).bind fun x15 =>
  some (0, [x15]))
theorem eq566 {G fuel} (x0 x1) : run G fuel T566 [x0, x1] = S566 G fuel x0 x1 := by rw [run_eq]; kernel_rfl
def T567 : T :=
(oo (.f2b .f64) [0] <|
oo (.i2i .i64) [1] <|
oo (.icm .lss) [2, kI 0] <|
.out 0 [3])
def S567 (_G : Told) (_fuel : Nat) (x0 : D) : Option (Nat × List D) :=
 (gev none (.f2b .f64) [x0]).bind fun x1 =>
 (gev none (.i2i .i64) [x1]).bind fun x2 =>
 (gev none (.icm .lss) [x2, .int 0]).bind fun x3 =>
 some (0, [x3])
theorem eq567 {G fuel} (x0) : run G fuel T567 [x0] = S567 G fuel x0 := by rw [run_eq]; kernel_rfl
attribute [local irreducible] vl il tl totL szM validP tif tjoin IntKind.wrap F150

theorem run484 {G : Told} : Runs G F484 T484 := by
 intro ds rs h
 unfold F484 at h
 split at h
 case h_2 => cases h
 rename_i a b
 obtain ⟨l, ha, h⟩ := Option.bind_eq_some_iff.1 h
 obtain ⟨m, hb, h⟩ := Option.bind_eq_some_iff.1 h
 split at h
 case isFalse => cases h
 rename_i hc
 obtain ⟨rfl, hc⟩ := hc
 rw [dI_inv ha, dI_inv hb]
 simp only [Option.some.injEq] at h
 subst h
 refine ⟨l.length + 1, ?_⟩
 rw [eq484]
 unfold S484
 have hn := len_il (l := l)
 have hne : ((l.length : Int) != l.length) = false := by simp
 have hloop : iter (tbody 1 (S484L0 G (il l) (il l) (.int (l.length : Int)))) (l.length + 1) [.int 0] = some (0, [.int (l.length : Int), .bool false]) := by
  have h1 := iter_upto (body := tbody 1 (S484L0 G (il l) (il l) (.int (l.length : Int)))) (n := l.length) (l := 0) (ds := [.int (l.length : Int), .bool false])
   (fun i => [.int (i : Int)]) ?_ ?_
  ·simpa using h1
  ·intro i hi
   refine tb rfl ?_;have h0 : decide ((i : Int) < (l.length : Int)) = true := by simpa using hi
   have hx := idx_il hi;have p3 := add1n (i := i) (by omega)
   have hv : (l[i] != l[i]) = false := by simp
   unfold S484L0
   repeat' first
    | with_reducible refine st_ift ?_
    | with_reducible refine st_iff ?_
    | ((with_reducible apply st_some); exact hx)
    | ((with_reducible apply st_some); exact p3)
    | ((with_reducible apply st_callt); assumption; exact rfl; exact rfl; assumption)
    | ((with_reducible apply st_callf); assumption; exact rfl; exact rfl; assumption)
    | ((with_reducible apply st_call); assumption; exact rfl; exact rfl; exact rfl)
    | ((with_reducible apply st_wide); exact rfl; exact rfl)
    | ((with_reducible apply st_skip); exact rfl)
    | ((with_reducible apply st_t); exact rfl; exact rfl)
    | ((with_reducible apply st_f); exact rfl; exact rfl)
    | ((with_reducible apply st_t); exact rfl; assumption)
    | ((with_reducible apply st_f); exact rfl; assumption)
    | ((with_reducible apply st_some); exact rfl)
    | exact rfl
  ·refine tb rfl ?_
   have h0 : decide ((l.length : Int) < (l.length : Int)) = false := by simp
   unfold S484L0
   repeat' first
    | with_reducible refine st_ift ?_
    | with_reducible refine st_iff ?_
    | ((with_reducible apply st_callt); assumption; exact rfl; exact rfl; assumption)
    | ((with_reducible apply st_callf); assumption; exact rfl; exact rfl; assumption)
    | ((with_reducible apply st_call); assumption; exact rfl; exact rfl; exact rfl)
    | ((with_reducible apply st_wide); exact rfl; exact rfl)
    | ((with_reducible apply st_skip); exact rfl)
    | ((with_reducible apply st_t); exact rfl; exact rfl)
    | ((with_reducible apply st_f); exact rfl; exact rfl)
    | ((with_reducible apply st_t); exact rfl; assumption)
    | ((with_reducible apply st_f); exact rfl; assumption)
    | ((with_reducible apply st_some); exact rfl)
    | exact rfl
 repeat' first
  | with_reducible refine st_ift ?_
  | with_reducible refine st_iff ?_
  | ((with_reducible apply st_join); exact hloop; exact rfl)
  | ((with_reducible apply st_some); exact hn)
  | ((with_reducible apply st_callt); assumption; exact rfl; exact rfl; assumption)
  | ((with_reducible apply st_callf); assumption; exact rfl; exact rfl; assumption)
  | ((with_reducible apply st_call); assumption; exact rfl; exact rfl; exact rfl)
  | ((with_reducible apply st_wide); exact rfl; exact rfl)
  | ((with_reducible apply st_skip); exact rfl)
  | ((with_reducible apply st_t); exact rfl; exact rfl)
  | ((with_reducible apply st_f); exact rfl; exact rfl)
  | ((with_reducible apply st_t); exact rfl; assumption)
  | ((with_reducible apply st_f); exact rfl; assumption)
  | ((with_reducible apply st_some); exact rfl)
  | exact rfl
theorem run483 {G : Told} (g484 : G 484 = F484) : Runs G F483 T483 := by
 intro ds rs h
 have h' := h
 unfold F483 F484 at h
 split at h
 case h_2 => cases h
 rename_i a b
 obtain ⟨l, ha, h⟩ := Option.bind_eq_some_iff.1 h
 obtain ⟨m, hb, h⟩ := Option.bind_eq_some_iff.1 h
 split at h
 case isFalse => cases h
 simp only [Option.some.injEq] at h
 subst h
 have h' : F484 [a, b] = some [.bool true] := h'
 refine ⟨0, ?_⟩
 rw [eq483]
 unfold S483
 repeat' first
  | with_reducible refine st_ift ?_
  | with_reducible refine st_iff ?_
  | ((with_reducible apply st_call); exact g484; exact rfl; exact h'; exact rfl)
  | ((with_reducible apply st_callt); assumption; exact rfl; exact rfl; assumption)
  | ((with_reducible apply st_callf); assumption; exact rfl; exact rfl; assumption)
  | ((with_reducible apply st_call); assumption; exact rfl; exact rfl; exact rfl)
  | ((with_reducible apply st_wide); exact rfl; exact rfl)
  | ((with_reducible apply st_skip); exact rfl)
  | ((with_reducible apply st_t); exact rfl; exact rfl)
  | ((with_reducible apply st_f); exact rfl; exact rfl)
  | ((with_reducible apply st_t); exact rfl; assumption)
  | ((with_reducible apply st_f); exact rfl; assumption)
  | ((with_reducible apply st_some); exact rfl)
  | exact rfl
theorem lss_t5 {x y : Int} (h : x < y) : gev none (.icm .lss) [.int x, .int y] = some (.bool true) := by rw [p_lss, decide_eq_true h]
theorem lss_f5 {x y : Int} (h : ¬ x < y) : gev none (.icm .lss) [.int x, .int y] = some (.bool false) := by rw [p_lss, decide_eq_false h]
theorem neq_f5 {x : Int} : gev none (.icm .neq) [.int x, .int x] = some (.bool false) := by rw [p_neq]; simp
theorem neq_t5 {x y : Int} (h : x ≠ y) : gev none (.icm .neq) [.int x, .int y] = some (.bool true) := by rw [p_neq]; simpa using h
theorem run482 {G : Told} (g483 : G 483 = F483) : Runs G F482 T482 := by
 intro ds rs h
 unfold F482 at h
 split at h
 case h_2 => cases h
 rename_i a b
 obtain ⟨l, ha, h1⟩ := Option.bind_eq_some_iff.1 h
 obtain ⟨m, hb, h2⟩ := Option.bind_eq_some_iff.1 h1
 clear h h1
 rw [dT_inv ha, dT_inv hb]
 clear ha hb
 split at h2
 case isFalse => cases h2
 rename_i hc
 simp only [Option.some.injEq] at h2
 subst h2
 obtain ⟨hlm, hc, hc2⟩ := hc
 have hn := len_tl (l := l)
 have hm := len_tl (l := m)
 rcases hlm with rfl | hne
 rotate_left
 ·refine ⟨0, ?_⟩
  rw [eq482];unfold S482;refine st_some hn ?_;refine st_some hm ?_;refine st_some (neq_t5 (by omega)) ?_
  refine st_ift ?_;rw [decide_eq_false (fun e => hne (by rw [e]))]
 refine ⟨l.length + 1, ?_⟩
 rw [eq482]
 unfold S482
 have hloop : iter (tbody 1 (S482L0 G (tl l) (tl l) (.int (l.length : Int)))) (l.length + 1) [.int 0] = some (0, [.int (l.length : Int), .bool false]) := by
  have h1 := iter_upto (body := tbody 1 (S482L0 G (tl l) (tl l) (.int (l.length : Int)))) (n := l.length) (l := 0) (ds := [.int (l.length : Int), .bool false])
   (fun i => [.int (i : Int)]) ?_ ?_
  ·simpa using h1
  ·intro i hi
   refine tb rfl ?_;have hx := idx_tl hi;have hle := len_le_totL hi;have hf : F483 [il l[i], il l[i]] = some [.bool true] := F484_m (by omega)
   unfold S482L0;refine st_some (lss_t5 (by omega)) ?_
   refine st_ift ?_;refine st_some hx ?_;refine st_some hx ?_;refine st_some (gcall_on g483 rfl hf rfl) ?_;refine st_some p_bnot ?_;refine st_iff ?_;exact st_some (add1n (by omega)) rfl
  ·refine tb rfl ?_
   unfold S482L0;refine st_some (lss_f5 (by omega)) ?_
   exact st_iff rfl
 refine st_some hn ?_
 refine st_some hn ?_
 refine st_some neq_f5 ?_
 refine st_iff ?_
 refine st_some hn ?_
 refine st_join hloop rfl ?_
 rw [decide_eq_true rfl]
theorem run481 {G : Told} (g482 : G 482 = F482) : Runs G F481 T481 := by
 intro ds rs h
 have h' : F482 ds = some rs := h
 unfold F481 F482 at h
 split at h
 case h_2 => cases h
 rename_i a b
 refine ⟨0, ?_⟩
 rw [eq481]
 unfold S481
 obtain ⟨l, ha, h1⟩ := Option.bind_eq_some_iff.1 h
 obtain ⟨m, hb, h2⟩ := Option.bind_eq_some_iff.1 h1
 split at h2
 case isFalse => cases h2
 simp only [Option.some.injEq] at h2
 subst h2
 exact st_some (gcall_on g482 rfl h' rfl) rfl
theorem p_f2b {x : Nat} (h : isnan .f64 x = false) : gev none (.f2b .f64) [.flt x] = some (.int x) := by simp [gev, gok, Prim.ev, h]
theorem run567 {G : Told} : Runs G F567 T567 := by
 intro ds rs h
 unfold F567 at h
 split at h
 case h_2 => cases h
 rename_i x
 split at h
 case isFalse => cases h
 rename_i hc
 simp only [Option.some.injEq] at h
 subst h
 refine ⟨0, ?_⟩
 rw [eq567]
 unfold S567
 exact st_some (p_f2b hc) rfl
attribute [local irreducible] sgb F567 F566 F565 F564 F481 F482 F483 F484 feq

theorem p_fneq {x y : Nat} : gev none (.fcm .neq .f32) [.flt x, .flt y] = some (.bool (!feq .f32 x y)) := (rfl)
theorem p_wide {x : Nat} : gev none (.f2f .f32 .f64) [.flt x] = some (.flt (wide x)) := by simp [gev, gok, Prim.ev, f2f_wide]
theorem run566 {G : Told} (g567 : G 567 = F567) : Runs G F566 T566 := by
 intro ds rs h
 have e : F566 = fun l => match l with | [.flt x, .flt y] => if x = y ∧ (rk .f32 x < inf .f32 ∨ feq .f32 x x = false) then some [.bool true] else none | _ => none := by with_unfolding_all rfl
 rw [e] at h
 dsimp only at h
 split at h
 case h_2 => cases h
 rename_i x y
 split at h
 case isFalse => cases h
 rename_i hc
 simp only [Option.some.injEq] at h
 subst h
 obtain ⟨rfl, hc⟩ := hc
 rcases hc with hc | hc
 rotate_left
 ·have p1 : gev none (.fcm .neq .f32) [.flt x, .flt x] = some (.bool true) := by rw [p_fneq, hc]; rfl
  refine ⟨0, ?_⟩;rw [eq566];unfold S566;refine st_some p1 ?_;refine st_some g_tf ?_;refine st_some g_tf ?_;refine st_some g_tf ?_;refine st_some p_pt ?_;refine st_ift ?_;refine st_some p1 ?_;refine st_some (g_tt.trans p_id) ?_;refine st_some (g_tt.trans p_id) ?_;refine st_some (g_tt.trans p1) ?_;exact st_some p_pt rfl
 have hq : feq .f32 x x = true := by rw [feq_R hc hc]; exact decide_eq_true rfl
 have hw : isnan .f64 (wide x) = false := by
  obtain ⟨r, e, hr, _⟩ := wide_word hc;refine isnan_R ?_;rw [e, show rk .f64 (double.word (sgn single x) r) = r from rk_word (k := .f64) (Nat.le_of_lt hr)]
  exact hr
 have hF : F567 [.flt (wide x)] = some [.bool (sgb (wide x))] := by with_unfolding_all exact if_pos hw
 have p1 : gev none (.fcm .neq .f32) [.flt x, .flt x] = some (.bool false) := by rw [p_fneq, hq]; rfl
 have p2 : gev none (.fcm .eql .f32) [.flt x, .flt x] = some (.bool true) := by rw [p_feql, hq]
 refine ⟨0, ?_⟩
 rw [eq566]
 unfold S566
 refine st_some p1 ?_
 refine st_some (g_ff.trans p_id) ?_
 refine st_some (g_ff.trans p_id) ?_
 refine st_some (g_ff.trans p1) ?_
 refine st_some p_pf ?_
 refine st_iff ?_
 refine st_some p2 ?_
 refine st_some (g_tt.trans p_id) ?_
 refine st_some (g_tt.trans p_wide) ?_
 refine st_some (c_tt.trans (gcall_on g567 rfl hF rfl)) ?_
 refine st_some (g_tt.trans p_id) ?_
 refine st_some (g_tt.trans p_wide) ?_
 refine st_some (c_tt.trans (gcall_on g567 rfl hF rfl)) ?_
 refine st_some (g_tt.trans p_beq) ?_
 refine st_some p_pt ?_
 rw [beq_self_eq_true]
theorem F566_m {x : Nat} (h : rk .f32 x < inf .f32) : F566 [.flt x, .flt x] = some [.bool true] := by with_unfolding_all exact if_pos ⟨rfl, .inl h⟩
theorem F566_nan {x : Nat} (h : feq .f32 x x = false) : F566 [.flt x, .flt x] = some [.bool true] := by with_unfolding_all exact if_pos ⟨rfl, .inr h⟩
theorem F565_m {v : V3} (h : finV v) : F565 [.flt v.x, .flt v.y, .flt v.z, .flt v.x, .flt v.y, .flt v.z] = some [.bool true] := by with_unfolding_all exact if_pos ⟨⟨rfl, rfl, rfl⟩, h⟩
theorem run565 {G : Told} (g566 : G 566 = F566) : Runs G F565 T565 := by
 intro ds rs h
 have e : F565 = fun l => match l with | [.flt x, .flt y, .flt z, .flt a, .flt b, .flt c] => if (x = a ∧ y = b ∧ z = c) ∧ finV ⟨x, y, z⟩ then some [.bool true] else none | _ => none := by with_unfolding_all rfl
 rw [e] at h
 dsimp only at h
 split at h
 case h_2 => cases h
 rename_i x y z a b c
 split at h
 case isFalse => cases h
 rename_i hc
 simp only [Option.some.injEq] at h
 subst h
 obtain ⟨⟨rfl, rfl, rfl⟩, h1, h2, h3⟩ := hc
 refine ⟨0, ?_⟩
 rw [eq565]
 unfold S565
 refine st_some (gcall_on g566 rfl (F566_m h1) rfl) ?_
 refine st_some (g_tt.trans p_id) ?_
 refine st_some (g_tt.trans p_id) ?_
 refine st_some (c_tt.trans (gcall_on g566 rfl (F566_m h2) rfl)) ?_
 refine st_some p_pt ?_
 refine st_some (g_tt.trans p_id) ?_
 refine st_some (g_tt.trans p_id) ?_
 refine st_some (c_tt.trans (gcall_on g566 rfl (F566_m h3) rfl)) ?_
 refine st_some p_pt ?_
 rfl
theorem run564 {G : Told} (g565 : G 565 = F565) : Runs G F564 T564 := by
 intro ds rs h
 unfold F564 at h
 split at h
 case h_2 => cases h
 rename_i a b
 obtain ⟨l, ha, h⟩ := Option.bind_eq_some_iff.1 h
 obtain ⟨m, hb, h⟩ := Option.bind_eq_some_iff.1 h
 split at h
 case isFalse => cases h
 rename_i hc
 obtain ⟨rfl, hc, hf⟩ := hc
 rw [dV_inv ha, dV_inv hb]
 simp only [Option.some.injEq] at h
 subst h
 refine ⟨l.length + 1, ?_⟩
 rw [eq564]
 unfold S564
 have hn := len_vl (l := l)
 have hne : gev none (.icm .neq) [.int (l.length : Int), .int (l.length : Int)] = some (.bool false) := by rw [p_neq]; simp
 have hloop : iter (tbody 1 (S564L0 G (vl l) (vl l) (.int (l.length : Int)))) (l.length + 1) [.int 0] = some (0, [.int (l.length : Int), .bool false]) := by
  have h1 := iter_upto (body := tbody 1 (S564L0 G (vl l) (vl l) (.int (l.length : Int)))) (n := l.length) (l := 0) (ds := [.int (l.length : Int), .bool false])
   (fun i => [.int (i : Int)]) ?_ ?_
  ·simpa using h1
  ·intro i hi
   refine tb rfl ?_;have h0 : gev none (.icm .lss) [.int (i : Int), .int (l.length : Int)] = some (.bool true) := by rw [p_lss, decide_eq_true (by omega)]
   have hx := idx_vl hi;unfold S564L0;refine st_some h0 ?_;refine st_ift ?_;refine st_some hx ?_;refine st_some p_v0 ?_;refine st_some p_v1 ?_;refine st_some p_v2 ?_;refine st_some hx ?_;refine st_some p_v0 ?_;refine st_some p_v1 ?_;refine st_some p_v2 ?_;refine st_some (gcall_on g565 rfl (F565_m (hf _ (List.getElem_mem hi))) rfl) ?_;refine st_some p_bnot ?_;refine st_iff ?_;exact st_some (add1n (by omega)) rfl
  ·refine tb rfl ?_
   have h0 : gev none (.icm .lss) [.int (l.length : Int), .int (l.length : Int)] = some (.bool false) := by rw [p_lss, decide_eq_false (by omega)]
   unfold S564L0;refine st_some h0 ?_;exact st_iff rfl
 refine st_some hn ?_
 refine st_some hn ?_
 refine st_some hne ?_
 refine st_iff ?_
 refine st_some hn ?_
 exact st_join hloop rfl rfl
theorem run563 {G : Told} (g564 : G 564 = F564) (g481 : G 481 = F481) : Runs G F563 T563 := by
 intro ds rs h
 unfold F563 at h
 split at h
 case h_2 => cases h
 rename_i a b c d
 obtain ⟨vs, ha, h1⟩ := Option.bind_eq_some_iff.1 h
 obtain ⟨ts, hb, h2⟩ := Option.bind_eq_some_iff.1 h1
 obtain ⟨us, hc, h3⟩ := Option.bind_eq_some_iff.1 h2
 obtain ⟨ss, hd, h4⟩ := Option.bind_eq_some_iff.1 h3
 clear h h1 h2 h3
 rw [dV_inv ha, dT_inv hb, dV_inv hc, dT_inv hd]
 clear ha hb hc hd
 split at h4
 case isFalse => cases h4
 rename_i hq
 obtain ⟨⟨rfl, rfl⟩, hz, hf⟩ := hq
 simp only [Option.some.injEq] at h4
 subst h4
 have hz' : szM vs ts = vs.length + ts.length + totL ts := by with_unfolding_all rfl
 have h1 : F481 [tl ts, tl ts] = some [.bool true] := by
  have := F482_m (l := ts) (by omega)
  with_unfolding_all exact this
 refine ⟨0, ?_⟩
 rw [eq563]
 unfold S563
 refine st_some (gcall_on g564 rfl (F564_m (by omega) hf) rfl) ?_
 refine st_some (g_tt.trans p_id) ?_
 refine st_some (g_tt.trans p_id) ?_
 refine st_some (c_tt.trans (gcall_on g481 rfl h1 rfl)) ?_
 exact st_some p_pt rfl
theorem eql_t5 {x : Int} : gev none (.icm .eql) [.int x, .int x] = some (.bool true) := by rw [p_eql, beq_self_eq_true]
theorem run480 {G : Told} (g150 : G 150 = F150) (g481 : G 481 = F481) : Runs G F480 T480 := by
 intro ds rs h
 unfold F480 at h
 split at h
 case h_2 => cases h
 rename_i a b c d
 obtain ⟨vs, ha, h1⟩ := Option.bind_eq_some_iff.1 h
 obtain ⟨ts, hb, h2⟩ := Option.bind_eq_some_iff.1 h1
 obtain ⟨us, hc, h3⟩ := Option.bind_eq_some_iff.1 h2
 obtain ⟨ss, hd, h4⟩ := Option.bind_eq_some_iff.1 h3
 clear h h1 h2 h3
 rw [dV_inv ha, dT_inv hb, dV_inv hc, dT_inv hd]
 clear ha hb hc hd
 split at h4
 case isFalse => cases h4
 rename_i hq
 obtain ⟨hl, h0, ⟨z1, z2⟩, hv, hu⟩ := hq
 simp only [Option.some.injEq] at h4
 subst h4
 have y1 : szM vs ts = vs.length + ts.length + totL ts := by with_unfolding_all rfl
 have y2 : szM us ss = us.length + ss.length + totL ss := by with_unfolding_all rfl
 have c1 := F150_m (vs := vs) (ts := ts) (by omega)
 have c2 := F150_m (vs := us) (ts := ss) (by omega)
 rw [hv] at c1
 rw [hu] at c2
 have c3 : F481 [tl ts, tl ss] = some [.bool (decide (ts = ss))] := by
  have := F482_g h0 (show ts.length + totL ts ≤ 1000000 by omega) (show ss.length ≤ 1000000 by omega)
  with_unfolding_all exact this
 refine ⟨0, ?_⟩
 rw [eq480]
 unfold S480
 refine st_some (gcall_on g150 rfl c1 rfl) ?_
 refine st_some (c_tt.trans (gcall_on g150 rfl c2 rfl)) ?_
 refine st_some p_pt ?_
 refine st_some (g_tt.trans p_id) ?_
 refine st_some (g_tt.trans len_vl) ?_
 refine st_some (g_tt.trans p_id) ?_
 refine st_some (g_tt.trans len_vl) ?_
 rw [hl]
 refine st_some (g_tt.trans eql_t5) ?_
 refine st_some p_pt ?_
 refine st_some (g_tt.trans p_id) ?_
 refine st_some (g_tt.trans p_id) ?_
 refine st_some (c_tt.trans (gcall_on g481 rfl c3 rfl)) ?_
 exact st_some p_pt rfl
end Vs
