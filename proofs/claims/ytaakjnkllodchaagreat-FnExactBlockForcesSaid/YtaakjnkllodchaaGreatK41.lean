/-
  Forces of a body.
-/
import Derived.Test.YtaakjnkllodchaaGreatK40
set_option maxHeartbeats 4000000
namespace Vs
open Go Go.Sort
def dirS (vs : List V3) (s : Sp) : V3 := lessV (plc vs s.b) (plc vs s.a)
def frcS (vs : List V3) (ss : List Sp) (u : List V3) : Nat → List V3
 | 0 => u
 | i + 1 => pushP (pushP (frcS vs ss u i) (ss.getD i ⟨0, 0, 0, 0⟩).a (dirS vs (ss.getD i ⟨0, 0, 0, 0⟩)) (pullP (dirS vs (ss.getD i ⟨0, 0, 0, 0⟩)) (ss.getD i ⟨0, 0, 0, 0⟩).l (ss.getD i ⟨0, 0, 0, 0⟩).k))
   (ss.getD i ⟨0, 0, 0, 0⟩).b (dirS vs (ss.getD i ⟨0, 0, 0, 0⟩)) (fneg .f32 (pullP (dirS vs (ss.getD i ⟨0, 0, 0, 0⟩)) (ss.getD i ⟨0, 0, 0, 0⟩).l (ss.getD i ⟨0, 0, 0, 0⟩).k))
def nrmF (vs : List V3) (t : List Int) : V3 := normT (plc vs (t.getD 0 0)) (plc vs (t.getD 1 0)) (plc vs (t.getD 2 0))
def filmF (fm : Nat) (n : V3) : Nat := gainP (fneg .f32 (fmul .f32 1056964608 fm)) (longV n)
def sideF (vs : List V3) (t : List Int) (k : Nat) : V3 := lessV (plc vs (t.getD ((k + 2) % 3) 0)) (plc vs (t.getD ((k + 1) % 3) 0))
def triN (vs : List V3) (t : List Int) (n : V3) (f : Nat) (u : List V3) : Nat → List V3
 | 0 => u
 | k + 1 => pushP (triN vs t n f u k) (t.getD k 0) (crossV n (sideF vs t k)) f
def frcT (vs : List V3) (ts : List (List Int)) (fm : Nat) (u : List V3) : Nat → List V3
 | 0 => u
 | i + 1 => triN vs (ts.getD i []) (nrmF vs (ts.getD i [])) (filmF fm (nrmF vs (ts.getD i []))) (frcT vs ts fm u i) 3
def hinF (vs : List V3) (bn : Nat) (h : List Int) (u : List V3) : List V3 :=
 pushP (pushP (pushP (pushP u (h.getD 0 0) (bentP vs h) bn) (h.getD 1 0) (bentP vs h) bn) (h.getD 2 0) (bentP vs h) (fneg .f32 bn)) (h.getD 3 0) (bentP vs h) (fneg .f32 bn)
def frcH (vs : List V3) (hs : List (List Int)) (bn : Nat) (u : List V3) : Nat → List V3
 | 0 => u
 | i + 1 => hinF vs bn (hs.getD i []) (frcH vs hs bn u i)
def frcW (ws : List Nat) (v : V3) (u : List V3) : Nat → List V3
 | 0 => u
 | i + 1 => pushP (frcW ws v u i) (i : Int) v (ws.getD i 0)
def zerV (n : Nat) : List V3 := List.replicate n ⟨0, 0, 0⟩
def frcB (B : Bd) : List V3 :=
 frcW B.ws ⟨B.x, B.y, B.z⟩ (frcH B.vs (hinL B.ts B.vs.length) B.bn (frcT B.vs B.ts B.fm (frcS B.vs B.ss (zerV B.vs.length) B.ss.length) B.ts.length) (hinL B.ts B.vs.length).length) B.ws.length
noncomputable def F521 (ds : List D) : Option (List D) := (dB ds).bind fun p => if p.2 = [] ∧ validB p.1 = true then some [vl (frcB p.1)] else none
theorem pushP_len (l : List V3) (p : Int) (v : V3) (k : Nat) : (pushP l p v k).length = l.length := by simp [pushP]
theorem frcS_len (vs : List V3) (ss : List Sp) (u : List V3) : ∀ i, (frcS vs ss u i).length = u.length
 | 0 => rfl
 | i + 1 => by rw [frcS, pushP_len, pushP_len, frcS_len]
theorem triN_len (vs : List V3) (t : List Int) (n : V3) (f : Nat) (u : List V3) : ∀ k, (triN vs t n f u k).length = u.length
 | 0 => rfl
 | k + 1 => by rw [triN, pushP_len, triN_len]
theorem frcT_len (vs : List V3) (ts : List (List Int)) (fm : Nat) (u : List V3) : ∀ i, (frcT vs ts fm u i).length = u.length
 | 0 => rfl
 | i + 1 => by rw [frcT, triN_len, frcT_len]
theorem hinF_len (vs : List V3) (bn : Nat) (h : List Int) (u : List V3) : (hinF vs bn h u).length = u.length := by simp [hinF, pushP_len]
theorem frcH_len (vs : List V3) (hs : List (List Int)) (bn : Nat) (u : List V3) : ∀ i, (frcH vs hs bn u i).length = u.length
 | 0 => rfl
 | i + 1 => by rw [frcH, hinF_len, frcH_len]
theorem frcW_len (ws : List Nat) (v : V3) (u : List V3) : ∀ i, (frcW ws v u i).length = u.length
 | 0 => rfl
 | i + 1 => by rw [frcW, pushP_len, frcW_len]
theorem frcB_len (B : Bd) : (frcB B).length = B.vs.length := by
 unfold frcB
 rw [frcW_len, frcH_len, frcT_len, frcS_len]
 simp [zerV]
def T521 : T :=
(oo .len [0] <|
oo .rep [(.v 9), (.c (.agg [.flt 0, .flt 0, .flt 0]))] <|
oo .len [2] <|
.join 3
 (.loop [10, kI 0]
  (oo (.icm .lss) [13, 11] <|
  .ite 14
   (oo .idx [2, 13] <|
   oo (.proj 0) [15] <|
   oo (.proj 1) [15] <|
   oo (.proj 2) [15] <|
   oo (.proj 3) [15] <|
   cc 201 [0, 1, 2, 3, 4, 5, 6, 7, 8, 16, 17, 18, 19] 3 <|
   cc 520 [20, 21, 22, 16, 17, 18, 19] 1 <|
   cc 522 [16, 20, 21, 22, 23, 12] 1 <|
   oo (.fneg .f32) [23] <|
   cc 522 [17, 20, 21, 22, 25, 24] 1 <|
   oo (.iar .add .i64) [13, kI 1] <|
   .out 0 [26, 27])
   (.out 1 [12, 13, 14])))
(oo .len [1] <|
.join 3
 (.loop [12, kI 0]
  (oo (.icm .lss) [17, 15] <|
  .ite 18
   (oo .idx [1, 17] <|
   cc 160 [0, 1, 19] 3 <|
   cc 15 [20, 21, 22] 1 <|
   oo (.fcm .gtr .f32) [23, kF 0] <|
   .join 1
    (.ite 24
     (oo (.far .mul .f32) [kF 1056964608, 3] <|
     oo (.fneg .f32) [25] <|
     oo (.far .quo .f32) [26, 23] <|
     .out 0 [27])
     (.out 0 [kF 0]))
   (.join 3
    (.loop [16, kI 0]
     (oo (.icm .lss) [27, kI 3] <|
     .ite 28
      (oo (.iar .add .i64) [27, kI 1] <|
      oo (.idv .rem .i64) [29, kI 3] <|
      oo .idx [19, 30] <|
      oo (.iar .add .i64) [27, kI 2] <|
      oo (.idv .rem .i64) [32, kI 3] <|
      oo .idx [19, 33] <|
      oo .idx [19, 27] <|
      oo .idx [0, 34] <|
      oo (.proj 0) [36] <|
      oo (.proj 1) [36] <|
      oo (.proj 2) [36] <|
      oo .idx [0, 31] <|
      oo (.proj 0) [40] <|
      oo (.proj 1) [40] <|
      oo (.proj 2) [40] <|
      cc 13 [37, 38, 39, 41, 42, 43] 3 <|
      cc 158 [20, 21, 22, 44, 45, 46] 3 <|
      cc 522 [35, 47, 48, 49, 25, 26] 1 <|
      oo (.iar .add .i64) [27, kI 1] <|
      .out 0 [50, 51])
      (.out 1 [26, 27, 28])))
   (oo (.iar .add .i64) [17, kI 1] <|
   .out 0 [26, 29])))
   (.out 1 [16, 17, 18])))
(cc 523 [0, 1] 1 <|
oo .len [19] <|
.join 3
 (.loop [16, kI 0]
  (oo (.icm .lss) [22, 20] <|
  .ite 23
   (oo .idx [19, 22] <|
   oo .idx [19, 22] <|
   cc 524 [0, 1, 25] 3 <|
   oo .idx [25, kI 0] <|
   oo .idx [25, kI 0] <|
   cc 522 [30, 26, 27, 28, 4, 21] 1 <|
   oo .idx [25, kI 1] <|
   oo .idx [25, kI 1] <|
   cc 522 [33, 26, 27, 28, 4, 31] 1 <|
   oo .idx [25, kI 2] <|
   oo .idx [25, kI 2] <|
   oo (.fneg .f32) [4] <|
   cc 522 [36, 26, 27, 28, 37, 34] 1 <|
   oo .idx [25, kI 3] <|
   oo .idx [25, kI 3] <|
   oo (.fneg .f32) [4] <|
   cc 522 [40, 26, 27, 28, 41, 38] 1 <|
   oo (.iar .add .i64) [22, kI 1] <|
   .out 0 [42, 43])
   (.out 1 [21, 22, 23])))
(oo .len [5] <|
.join 3
 (.loop [21, kI 0]
  (oo (.icm .lss) [26, 24] <|
  .ite 27
   (oo .idx [5, 26] <|
   cc 522 [26, 6, 7, 8, 28, 25] 1 <|
   oo (.iar .add .i64) [26, kI 1] <|
   .out 0 [29, 30])
   (.out 1 [25, 26, 27])))
(.out 0 [25])))))
def S521L0 (G : Told) (x5 : D) (x6 : D) (x7 : D) (x8 : D) (x24 : D) : List D → Option (Nat × List D) := fun e25 =>
   (gev none (.icm .lss) [e25.getD 1 .undef, x24]).bind fun x27 =>
   tif x27 (
    (gev none .idx [x5, e25.getD 1 .undef]).bind fun x28 =>
    (gcall G none 522 [e25.getD 1 .undef, x6, x7, x8, x28, e25.getD 0 .undef] 1).bind fun e29 =>
    (gev none (.iar .add .i64) [e25.getD 1 .undef, .int 1]).bind fun x30 =>
    some (0, [e29.getD 0 .undef, x30])) (
    some (1, [e25.getD 0 .undef, e25.getD 1 .undef, x27]))
def S521L1 (G : Told) (x0 : D) (x1 : D) (x4 : D) (e19 : List D) (x20 : D) : List D → Option (Nat × List D) := fun e21 =>
   (gev none (.icm .lss) [e21.getD 1 .undef, x20]).bind fun x23 =>
   tif x23 (
    (gev none .idx [e19.getD 0 .undef, e21.getD 1 .undef]).bind fun _x24 =>
    (gev none .idx [e19.getD 0 .undef, e21.getD 1 .undef]).bind fun x25 =>
    (gcall G none 524 [x0, x1, x25] 3).bind fun e26 =>
    (gev none .idx [x25, .int 0]).bind fun _x29 =>
    (gev none .idx [x25, .int 0]).bind fun x30 =>
    (gcall G none 522 [x30, e26.getD 0 .undef, e26.getD 1 .undef, e26.getD 2 .undef, x4, e21.getD 0 .undef] 1).bind fun e31 =>
    (gev none .idx [x25, .int 1]).bind fun _x32 =>
    (gev none .idx [x25, .int 1]).bind fun x33 =>
    (gcall G none 522 [x33, e26.getD 0 .undef, e26.getD 1 .undef, e26.getD 2 .undef, x4, e31.getD 0 .undef] 1).bind fun e34 =>
    (gev none .idx [x25, .int 2]).bind fun _x35 =>
    (gev none .idx [x25, .int 2]).bind fun x36 =>
    (gev none (.fneg .f32) [x4]).bind fun x37 =>
    (gcall G none 522 [x36, e26.getD 0 .undef, e26.getD 1 .undef, e26.getD 2 .undef, x37, e34.getD 0 .undef] 1).bind fun e38 =>
    (gev none .idx [x25, .int 3]).bind fun _x39 =>
    (gev none .idx [x25, .int 3]).bind fun x40 =>
    (gev none (.fneg .f32) [x4]).bind fun x41 =>
    (gcall G none 522 [x40, e26.getD 0 .undef, e26.getD 1 .undef, e26.getD 2 .undef, x41, e38.getD 0 .undef] 1).bind fun e42 =>
    (gev none (.iar .add .i64) [e21.getD 1 .undef, .int 1]).bind fun x43 =>
    some (0, [e42.getD 0 .undef, x43])) (
    some (1, [e21.getD 0 .undef, e21.getD 1 .undef, x23]))
def S521L2 (G : Told) (x0 : D) (x19 : D) (e20 : List D) (e25 : List D) : List D → Option (Nat × List D) := fun e26 =>
      (gev none (.icm .lss) [e26.getD 1 .undef, .int 3]).bind fun x28 =>
      tif x28 (
       (gev none (.iar .add .i64) [e26.getD 1 .undef, .int 1]).bind fun x29 =>
       (gev none (.idv .rem .i64) [x29, .int 3]).bind fun x30 =>
       (gev none .idx [x19, x30]).bind fun x31 =>
       (gev none (.iar .add .i64) [e26.getD 1 .undef, .int 2]).bind fun x32 =>
       (gev none (.idv .rem .i64) [x32, .int 3]).bind fun x33 =>
       (gev none .idx [x19, x33]).bind fun x34 =>
       (gev none .idx [x19, e26.getD 1 .undef]).bind fun x35 =>
       (gev none .idx [x0, x34]).bind fun x36 =>
       (gev none (.proj 0) [x36]).bind fun x37 =>
       (gev none (.proj 1) [x36]).bind fun x38 =>
       (gev none (.proj 2) [x36]).bind fun x39 =>
       (gev none .idx [x0, x31]).bind fun x40 =>
       (gev none (.proj 0) [x40]).bind fun x41 =>
       (gev none (.proj 1) [x40]).bind fun x42 =>
       (gev none (.proj 2) [x40]).bind fun x43 =>
       (gcall G none 13 [x37, x38, x39, x41, x42, x43] 3).bind fun e44 =>
       (gcall G none 158 [e20.getD 0 .undef, e20.getD 1 .undef, e20.getD 2 .undef, e44.getD 0 .undef, e44.getD 1 .undef, e44.getD 2 .undef] 3).bind fun e47 =>
       (gcall G none 522 [x35, e47.getD 0 .undef, e47.getD 1 .undef, e47.getD 2 .undef, e25.getD 0 .undef, e26.getD 0 .undef] 1).bind fun e50 =>
       (gev none (.iar .add .i64) [e26.getD 1 .undef, .int 1]).bind fun x51 =>
       some (0, [e50.getD 0 .undef, x51])) (
       some (1, [e26.getD 0 .undef, e26.getD 1 .undef, x28]))
def S521L3 (G : Told) (fuel : Nat) (x0 : D) (x1 : D) (x3 : D) (x15 : D) : List D → Option (Nat × List D) := fun e16 =>
   (gev none (.icm .lss) [e16.getD 1 .undef, x15]).bind fun x18 =>
   tif x18 (
    (gev none .idx [x1, e16.getD 1 .undef]).bind fun x19 =>
    (gcall G none 160 [x0, x1, x19] 3).bind fun e20 =>
    (gcall G none 15 [e20.getD 0 .undef, e20.getD 1 .undef, e20.getD 2 .undef] 1).bind fun e23 =>
    (gev none (.fcm .gtr .f32) [e23.getD 0 .undef, .flt 0]).bind fun x24 =>
    tjoin 1 (
     tif x24 (
      (gev none (.far .mul .f32) [.flt 1056964608, x3]).bind fun x25 =>
      (gev none (.fneg .f32) [x25]).bind fun x26 =>
      (gev none (.far .quo .f32) [x26, e23.getD 0 .undef]).bind fun x27 =>
      some (0, [x27])) (
      some (0, [.flt 0]))) fun e25 =>
    tjoin 3 (
     iter (tbody 2 (S521L2 G x0 x19 e20 e25)) fuel [e16.getD 0 .undef, .int 0]) fun e26 =>
    (gev none (.iar .add .i64) [e16.getD 1 .undef, .int 1]).bind fun x29 =>
    some (0, [e26.getD 0 .undef, x29])) (
    some (1, [e16.getD 0 .undef, e16.getD 1 .undef, x18]))
def S521L4 (G : Told) (x0 : D) (x1 : D) (x2 : D) (x3 : D) (x4 : D) (x5 : D) (x6 : D) (x7 : D) (x8 : D) (x11 : D) : List D → Option (Nat × List D) := fun e12 =>
   (gev none (.icm .lss) [e12.getD 1 .undef, x11]).bind fun x14 =>
   tif x14 (
    (gev none .idx [x2, e12.getD 1 .undef]).bind fun x15 =>
    (gev none (.proj 0) [x15]).bind fun x16 =>
    (gev none (.proj 1) [x15]).bind fun x17 =>
    (gev none (.proj 2) [x15]).bind fun x18 =>
    (gev none (.proj 3) [x15]).bind fun x19 =>
    (gcall G none 201 [x0, x1, x2, x3, x4, x5, x6, x7, x8, x16, x17, x18, x19] 3).bind fun e20 =>
    (gcall G none 520 [e20.getD 0 .undef, e20.getD 1 .undef, e20.getD 2 .undef, x16, x17, x18, x19] 1).bind fun e23 =>
    (gcall G none 522 [x16, e20.getD 0 .undef, e20.getD 1 .undef, e20.getD 2 .undef, e23.getD 0 .undef, e12.getD 0 .undef] 1).bind fun e24 =>
    (gev none (.fneg .f32) [e23.getD 0 .undef]).bind fun x25 =>
    (gcall G none 522 [x17, e20.getD 0 .undef, e20.getD 1 .undef, e20.getD 2 .undef, x25, e24.getD 0 .undef] 1).bind fun e26 =>
    (gev none (.iar .add .i64) [e12.getD 1 .undef, .int 1]).bind fun x27 =>
    some (0, [e26.getD 0 .undef, x27])) (
    some (1, [e12.getD 0 .undef, e12.getD 1 .undef, x14]))
def S521 (G : Told) (fuel : Nat) (x0 x1 x2 x3 x4 x5 x6 x7 x8 : D) : Option (Nat × List D) :=
 (gev none .len [x0]).bind fun x9 =>
 (gev none .rep [x9, (.agg [.flt 0, .flt 0, .flt 0])]).bind fun x10 =>
 (gev none .len [x2]).bind fun x11 =>
 tjoin 3 (
  iter (tbody 2 (S521L4 G x0 x1 x2 x3 x4 x5 x6 x7 x8 x11)) fuel [x10, .int 0]) fun e12 =>
 (gev none .len [x1]).bind fun x15 =>
 tjoin 3 (
  iter (tbody 2 (S521L3 G fuel x0 x1 x3 x15)) fuel [e12.getD 0 .undef, .int 0]) fun e16 =>
 (gcall G none 523 [x0, x1] 1).bind fun e19 =>
 (gev none .len [e19.getD 0 .undef]).bind fun x20 =>
 tjoin 3 (
  iter (tbody 2 (S521L1 G x0 x1 x4 e19 x20)) fuel [e16.getD 0 .undef, .int 0]) fun e21 =>
 (gev none .len [x5]).bind fun x24 =>
 tjoin 3 (
  iter (tbody 2 (S521L0 G x5 x6 x7 x8 x24)) fuel [e21.getD 0 .undef, .int 0]) fun e25 =>
 some (0, [e25.getD 0 .undef])
theorem eq521 {G fuel} (x0 x1 x2 x3 x4 x5 x6 x7 x8) : run G fuel T521 [x0, x1, x2, x3, x4, x5, x6, x7, x8] = S521 G fuel x0 x1 x2 x3 x4 x5 x6 x7 x8 := by rw [run_eq]; kernel_rfl
def T521s : T :=
(oo .len [0] <|
oo .rep [(.v 9), (.c (.agg [.flt 0, .flt 0, .flt 0]))] <|
oo .len [2] <|
.join 3
 (.loop [10, kI 0]
  (oo (.icm .lss) [13, 11] <|
  .ite 14
   (oo .idx [2, 13] <|
   oo (.proj 0) [15] <|
   oo (.proj 1) [15] <|
   oo (.proj 2) [15] <|
   oo (.proj 3) [15] <|
   cc 526 [0, 1, 2, 3, 4, 5, 6, 7, 8, 16, 17, 18, 19] 4 <|
   oo .idx [12, 16] <|
   oo .idx [12, 16] <|
   oo (.proj 0) [25] <|
   oo (.proj 1) [25] <|
   oo (.proj 2) [25] <|
   cc 31 [20, 21, 22, 23] 3 <|
   cc 30 [26, 27, 28, 29, 30, 31] 3 <|
   oo .idx [12, 16] <|
   oo .mkagg [32, 33, 34] <|
   oo .set [12, 16, 36] <|
   oo .idx [37, 17] <|
   oo .idx [37, 17] <|
   oo (.proj 0) [39] <|
   oo (.proj 1) [39] <|
   oo (.proj 2) [39] <|
   oo (.fneg .f32) [23] <|
   cc 31 [20, 21, 22, 43] 3 <|
   cc 30 [40, 41, 42, 44, 45, 46] 3 <|
   oo .idx [37, 17] <|
   oo .mkagg [47, 48, 49] <|
   oo .set [37, 17, 51] <|
   oo (.iar .add .i64) [13, kI 1] <|
   .out 0 [52, 53])
   (.out 1 [12, 13, 14])))
(oo .len [1] <|
.join 3
 (.loop [12, kI 0]
  (oo (.icm .lss) [17, 15] <|
  .ite 18
   (oo .idx [1, 17] <|
   cc 160 [0, 1, 19] 3 <|
   oo (.far .mul .f32) [kF 1056964608, 3] <|
   oo (.fneg .f32) [23] <|
   cc 15 [20, 21, 22] 1 <|
   cc 126 [24, 25] 1 <|
   .join 4
    (.loop [16, kI 0]
     (oo (.icm .lss) [28, kI 3] <|
     .ite 29
      (oo (.iar .add .i64) [28, kI 2] <|
      oo (.idv .rem .i64) [30, kI 3] <|
      oo .idx [19, 31] <|
      oo .idx [0, 32] <|
      oo (.proj 0) [33] <|
      oo (.proj 1) [33] <|
      oo (.proj 2) [33] <|
      oo (.iar .add .i64) [28, kI 1] <|
      oo (.idv .rem .i64) [37, kI 3] <|
      oo .idx [19, 38] <|
      oo .idx [0, 39] <|
      oo (.proj 0) [40] <|
      oo (.proj 1) [40] <|
      oo (.proj 2) [40] <|
      cc 13 [34, 35, 36, 41, 42, 43] 3 <|
      oo .idx [19, 28] <|
      oo .idx [19, 28] <|
      oo .idx [27, 48] <|
      oo .idx [27, 48] <|
      oo (.proj 0) [50] <|
      oo (.proj 1) [50] <|
      oo (.proj 2) [50] <|
      cc 158 [20, 21, 22, 44, 45, 46] 3 <|
      cc 31 [54, 55, 56, 26] 3 <|
      cc 30 [51, 52, 53, 57, 58, 59] 3 <|
      oo .idx [27, 47] <|
      oo .mkagg [60, 61, 62] <|
      oo .set [27, 47, 64] <|
      oo (.iar .add .i64) [28, kI 1] <|
      .out 0 [65, 66])
      (.out 1 [27, 28, 28, 29])))
   (oo (.iar .add .i64) [17, kI 1] <|
   .out 0 [27, 31]))
   (.out 1 [16, 17, 18])))
(cc 523 [0, 1] 1 <|
oo .len [19] <|
.join 3
 (.loop [16, kI 0]
  (oo (.icm .lss) [22, 20] <|
  .ite 23
   (oo .idx [19, 22] <|
   oo .idx [19, 22] <|
   cc 524 [0, 1, 25] 3 <|
   oo .idx [25, kI 0] <|
   oo .idx [25, kI 0] <|
   oo .idx [25, kI 0] <|
   oo .idx [25, kI 0] <|
   oo .idx [21, 32] <|
   oo .idx [21, 32] <|
   oo (.proj 0) [34] <|
   oo (.proj 1) [34] <|
   oo (.proj 2) [34] <|
   cc 31 [26, 27, 28, 4] 3 <|
   cc 30 [35, 36, 37, 38, 39, 40] 3 <|
   oo .idx [21, 30] <|
   oo .mkagg [41, 42, 43] <|
   oo .set [21, 30, 45] <|
   oo .idx [25, kI 1] <|
   oo .idx [25, kI 1] <|
   oo .idx [25, kI 1] <|
   oo .idx [25, kI 1] <|
   oo .idx [46, 50] <|
   oo .idx [46, 50] <|
   oo (.proj 0) [52] <|
   oo (.proj 1) [52] <|
   oo (.proj 2) [52] <|
   cc 31 [26, 27, 28, 4] 3 <|
   cc 30 [53, 54, 55, 56, 57, 58] 3 <|
   oo .idx [46, 48] <|
   oo .mkagg [59, 60, 61] <|
   oo .set [46, 48, 63] <|
   oo .idx [25, kI 2] <|
   oo .idx [25, kI 2] <|
   oo .idx [25, kI 2] <|
   oo .idx [25, kI 2] <|
   oo .idx [64, 68] <|
   oo .idx [64, 68] <|
   oo (.proj 0) [70] <|
   oo (.proj 1) [70] <|
   oo (.proj 2) [70] <|
   oo (.fneg .f32) [4] <|
   cc 31 [26, 27, 28, 74] 3 <|
   cc 30 [71, 72, 73, 75, 76, 77] 3 <|
   oo .idx [64, 66] <|
   oo .mkagg [78, 79, 80] <|
   oo .set [64, 66, 82] <|
   oo .idx [25, kI 3] <|
   oo .idx [25, kI 3] <|
   oo .idx [25, kI 3] <|
   oo .idx [25, kI 3] <|
   oo .idx [83, 87] <|
   oo .idx [83, 87] <|
   oo (.proj 0) [89] <|
   oo (.proj 1) [89] <|
   oo (.proj 2) [89] <|
   oo (.fneg .f32) [4] <|
   cc 31 [26, 27, 28, 93] 3 <|
   cc 30 [90, 91, 92, 94, 95, 96] 3 <|
   oo .idx [83, 85] <|
   oo .mkagg [97, 98, 99] <|
   oo .set [83, 85, 101] <|
   oo (.iar .add .i64) [22, kI 1] <|
   .out 0 [102, 103])
   (.out 1 [21, 22, 23])))
(oo .len [0] <|
.join 3
 (.loop [21, kI 0]
  (oo (.icm .lss) [26, 24] <|
  .ite 27
   (oo .idx [25, 26] <|
   oo .idx [25, 26] <|
   oo (.proj 0) [29] <|
   oo (.proj 1) [29] <|
   oo (.proj 2) [29] <|
   oo .idx [5, 26] <|
   cc 31 [6, 7, 8, 33] 3 <|
   cc 30 [30, 31, 32, 34, 35, 36] 3 <|
   oo .idx [25, 26] <|
   oo .mkagg [37, 38, 39] <|
   oo .set [25, 26, 41] <|
   oo (.iar .add .i64) [26, kI 1] <|
   .out 0 [42, 43])
   (.out 1 [25, 26, 27])))
(.out 0 [25])))))
def S521sL0 (G : Told) (x5 : D) (x6 : D) (x7 : D) (x8 : D) (x24 : D) : List D → Option (Nat × List D) := fun e25 =>
   (gev none (.icm .lss) [e25.getD 1 .undef, x24]).bind fun x27 =>
   tif x27 (
    (gev none .idx [e25.getD 0 .undef, e25.getD 1 .undef]).bind fun _x28 =>
    (gev none .idx [e25.getD 0 .undef, e25.getD 1 .undef]).bind fun x29 =>
    (gev none (.proj 0) [x29]).bind fun x30 =>
    (gev none (.proj 1) [x29]).bind fun x31 =>
    (gev none (.proj 2) [x29]).bind fun x32 =>
    (gev none .idx [x5, e25.getD 1 .undef]).bind fun x33 =>
    (gcall G none 31 [x6, x7, x8, x33] 3).bind fun e34 =>
    (gcall G none 30 [x30, x31, x32, e34.getD 0 .undef, e34.getD 1 .undef, e34.getD 2 .undef] 3).bind fun e37 =>
    (gev none .idx [e25.getD 0 .undef, e25.getD 1 .undef]).bind fun _x40 =>
    (gev none .mkagg [e37.getD 0 .undef, e37.getD 1 .undef, e37.getD 2 .undef]).bind fun x41 =>
    (gev none .set [e25.getD 0 .undef, e25.getD 1 .undef, x41]).bind fun x42 =>
    (gev none (.iar .add .i64) [e25.getD 1 .undef, .int 1]).bind fun x43 =>
    some (0, [x42, x43])) (
    some (1, [e25.getD 0 .undef, e25.getD 1 .undef, x27]))
def S521sL1 (G : Told) (x0 : D) (x1 : D) (x4 : D) (e19 : List D) (x20 : D) : List D → Option (Nat × List D) := fun e21 =>
   (gev none (.icm .lss) [e21.getD 1 .undef, x20]).bind fun x23 =>
   tif x23 (
    (gev none .idx [e19.getD 0 .undef, e21.getD 1 .undef]).bind fun _x24 =>
    (gev none .idx [e19.getD 0 .undef, e21.getD 1 .undef]).bind fun x25 =>
    (gcall G none 524 [x0, x1, x25] 3).bind fun e26 =>
    (gev none .idx [x25, .int 0]).bind fun _x29 =>
    (gev none .idx [x25, .int 0]).bind fun x30 =>
    (gev none .idx [x25, .int 0]).bind fun _x31 =>
    (gev none .idx [x25, .int 0]).bind fun x32 =>
    (gev none .idx [e21.getD 0 .undef, x32]).bind fun _x33 =>
    (gev none .idx [e21.getD 0 .undef, x32]).bind fun x34 =>
    (gev none (.proj 0) [x34]).bind fun x35 =>
    (gev none (.proj 1) [x34]).bind fun x36 =>
    (gev none (.proj 2) [x34]).bind fun x37 =>
    (gcall G none 31 [e26.getD 0 .undef, e26.getD 1 .undef, e26.getD 2 .undef, x4] 3).bind fun e38 =>
    (gcall G none 30 [x35, x36, x37, e38.getD 0 .undef, e38.getD 1 .undef, e38.getD 2 .undef] 3).bind fun e41 =>
    (gev none .idx [e21.getD 0 .undef, x30]).bind fun _x44 =>
    (gev none .mkagg [e41.getD 0 .undef, e41.getD 1 .undef, e41.getD 2 .undef]).bind fun x45 =>
    (gev none .set [e21.getD 0 .undef, x30, x45]).bind fun x46 =>
    (gev none .idx [x25, .int 1]).bind fun _x47 =>
    (gev none .idx [x25, .int 1]).bind fun x48 =>
    (gev none .idx [x25, .int 1]).bind fun _x49 =>
    (gev none .idx [x25, .int 1]).bind fun x50 =>
    (gev none .idx [x46, x50]).bind fun _x51 =>
    (gev none .idx [x46, x50]).bind fun x52 =>
    (gev none (.proj 0) [x52]).bind fun x53 =>
    (gev none (.proj 1) [x52]).bind fun x54 =>
    (gev none (.proj 2) [x52]).bind fun x55 =>
    (gcall G none 31 [e26.getD 0 .undef, e26.getD 1 .undef, e26.getD 2 .undef, x4] 3).bind fun e56 =>
    (gcall G none 30 [x53, x54, x55, e56.getD 0 .undef, e56.getD 1 .undef, e56.getD 2 .undef] 3).bind fun e59 =>
    (gev none .idx [x46, x48]).bind fun _x62 =>
    (gev none .mkagg [e59.getD 0 .undef, e59.getD 1 .undef, e59.getD 2 .undef]).bind fun x63 =>
    (gev none .set [x46, x48, x63]).bind fun x64 =>
    (gev none .idx [x25, .int 2]).bind fun _x65 =>
    (gev none .idx [x25, .int 2]).bind fun x66 =>
    (gev none .idx [x25, .int 2]).bind fun _x67 =>
    (gev none .idx [x25, .int 2]).bind fun x68 =>
    (gev none .idx [x64, x68]).bind fun _x69 =>
    (gev none .idx [x64, x68]).bind fun x70 =>
    (gev none (.proj 0) [x70]).bind fun x71 =>
    (gev none (.proj 1) [x70]).bind fun x72 =>
    (gev none (.proj 2) [x70]).bind fun x73 =>
    (gev none (.fneg .f32) [x4]).bind fun x74 =>
    (gcall G none 31 [e26.getD 0 .undef, e26.getD 1 .undef, e26.getD 2 .undef, x74] 3).bind fun e75 =>
    (gcall G none 30 [x71, x72, x73, e75.getD 0 .undef, e75.getD 1 .undef, e75.getD 2 .undef] 3).bind fun e78 =>
    (gev none .idx [x64, x66]).bind fun _x81 =>
    (gev none .mkagg [e78.getD 0 .undef, e78.getD 1 .undef, e78.getD 2 .undef]).bind fun x82 =>
    (gev none .set [x64, x66, x82]).bind fun x83 =>
    (gev none .idx [x25, .int 3]).bind fun _x84 =>
    (gev none .idx [x25, .int 3]).bind fun x85 =>
    (gev none .idx [x25, .int 3]).bind fun _x86 =>
    (gev none .idx [x25, .int 3]).bind fun x87 =>
    (gev none .idx [x83, x87]).bind fun _x88 =>
    (gev none .idx [x83, x87]).bind fun x89 =>
    (gev none (.proj 0) [x89]).bind fun x90 =>
    (gev none (.proj 1) [x89]).bind fun x91 =>
    (gev none (.proj 2) [x89]).bind fun x92 =>
    (gev none (.fneg .f32) [x4]).bind fun x93 =>
    (gcall G none 31 [e26.getD 0 .undef, e26.getD 1 .undef, e26.getD 2 .undef, x93] 3).bind fun e94 =>
    (gcall G none 30 [x90, x91, x92, e94.getD 0 .undef, e94.getD 1 .undef, e94.getD 2 .undef] 3).bind fun e97 =>
    (gev none .idx [x83, x85]).bind fun _x100 =>
    (gev none .mkagg [e97.getD 0 .undef, e97.getD 1 .undef, e97.getD 2 .undef]).bind fun x101 =>
    (gev none .set [x83, x85, x101]).bind fun x102 =>
    (gev none (.iar .add .i64) [e21.getD 1 .undef, .int 1]).bind fun x103 =>
    some (0, [x102, x103])) (
    some (1, [e21.getD 0 .undef, e21.getD 1 .undef, x23]))
def S521sL2 (G : Told) (x0 : D) (x19 : D) (e20 : List D) (e26 : List D) : List D → Option (Nat × List D) := fun e27 =>
      (gev none (.icm .lss) [e27.getD 1 .undef, .int 3]).bind fun x29 =>
      tif x29 (
       (gev none (.iar .add .i64) [e27.getD 1 .undef, .int 2]).bind fun x30 =>
       (gev none (.idv .rem .i64) [x30, .int 3]).bind fun x31 =>
       (gev none .idx [x19, x31]).bind fun x32 =>
       (gev none .idx [x0, x32]).bind fun x33 =>
       (gev none (.proj 0) [x33]).bind fun x34 =>
       (gev none (.proj 1) [x33]).bind fun x35 =>
       (gev none (.proj 2) [x33]).bind fun x36 =>
       (gev none (.iar .add .i64) [e27.getD 1 .undef, .int 1]).bind fun x37 =>
       (gev none (.idv .rem .i64) [x37, .int 3]).bind fun x38 =>
       (gev none .idx [x19, x38]).bind fun x39 =>
       (gev none .idx [x0, x39]).bind fun x40 =>
       (gev none (.proj 0) [x40]).bind fun x41 =>
       (gev none (.proj 1) [x40]).bind fun x42 =>
       (gev none (.proj 2) [x40]).bind fun x43 =>
       (gcall G none 13 [x34, x35, x36, x41, x42, x43] 3).bind fun e44 =>
       (gev none .idx [x19, e27.getD 1 .undef]).bind fun x47 =>
       (gev none .idx [x19, e27.getD 1 .undef]).bind fun x48 =>
       (gev none .idx [e27.getD 0 .undef, x48]).bind fun _x49 =>
       (gev none .idx [e27.getD 0 .undef, x48]).bind fun x50 =>
       (gev none (.proj 0) [x50]).bind fun x51 =>
       (gev none (.proj 1) [x50]).bind fun x52 =>
       (gev none (.proj 2) [x50]).bind fun x53 =>
       (gcall G none 158 [e20.getD 0 .undef, e20.getD 1 .undef, e20.getD 2 .undef, e44.getD 0 .undef, e44.getD 1 .undef, e44.getD 2 .undef] 3).bind fun e54 =>
       (gcall G none 31 [e54.getD 0 .undef, e54.getD 1 .undef, e54.getD 2 .undef, e26.getD 0 .undef] 3).bind fun e57 =>
       (gcall G none 30 [x51, x52, x53, e57.getD 0 .undef, e57.getD 1 .undef, e57.getD 2 .undef] 3).bind fun e60 =>
       (gev none .idx [e27.getD 0 .undef, x47]).bind fun _x63 =>
       (gev none .mkagg [e60.getD 0 .undef, e60.getD 1 .undef, e60.getD 2 .undef]).bind fun x64 =>
       (gev none .set [e27.getD 0 .undef, x47, x64]).bind fun x65 =>
       (gev none (.iar .add .i64) [e27.getD 1 .undef, .int 1]).bind fun x66 =>
       some (0, [x65, x66])) (
       some (1, [e27.getD 0 .undef, e27.getD 1 .undef, e27.getD 1 .undef, x29]))
def S521sL3 (G : Told) (fuel : Nat) (x0 : D) (x1 : D) (x3 : D) (x15 : D) : List D → Option (Nat × List D) := fun e16 =>
   (gev none (.icm .lss) [e16.getD 1 .undef, x15]).bind fun x18 =>
   tif x18 (
    (gev none .idx [x1, e16.getD 1 .undef]).bind fun x19 =>
    (gcall G none 160 [x0, x1, x19] 3).bind fun e20 =>
    (gev none (.far .mul .f32) [.flt 1056964608, x3]).bind fun x23 =>
    (gev none (.fneg .f32) [x23]).bind fun x24 =>
    (gcall G none 15 [e20.getD 0 .undef, e20.getD 1 .undef, e20.getD 2 .undef] 1).bind fun e25 =>
    (gcall G none 126 [x24, e25.getD 0 .undef] 1).bind fun e26 =>
    tjoin 4 (
     iter (tbody 2 (S521sL2 G x0 x19 e20 e26)) fuel [e16.getD 0 .undef, .int 0]) fun e27 =>
    (gev none (.iar .add .i64) [e16.getD 1 .undef, .int 1]).bind fun x31 =>
    some (0, [e27.getD 0 .undef, x31])) (
    some (1, [e16.getD 0 .undef, e16.getD 1 .undef, x18]))
def S521sL4 (G : Told) (x0 : D) (x1 : D) (x2 : D) (x3 : D) (x4 : D) (x5 : D) (x6 : D) (x7 : D) (x8 : D) (x11 : D) : List D → Option (Nat × List D) := fun e12 =>
   (gev none (.icm .lss) [e12.getD 1 .undef, x11]).bind fun x14 =>
   tif x14 (
    (gev none .idx [x2, e12.getD 1 .undef]).bind fun x15 =>
    (gev none (.proj 0) [x15]).bind fun x16 =>
    (gev none (.proj 1) [x15]).bind fun x17 =>
    (gev none (.proj 2) [x15]).bind fun x18 =>
    (gev none (.proj 3) [x15]).bind fun x19 =>
    (gcall G none 526 [x0, x1, x2, x3, x4, x5, x6, x7, x8, x16, x17, x18, x19] 4).bind fun e20 =>
    (gev none .idx [e12.getD 0 .undef, x16]).bind fun _x24 =>
    (gev none .idx [e12.getD 0 .undef, x16]).bind fun x25 =>
    (gev none (.proj 0) [x25]).bind fun x26 =>
    (gev none (.proj 1) [x25]).bind fun x27 =>
    (gev none (.proj 2) [x25]).bind fun x28 =>
    (gcall G none 31 [e20.getD 0 .undef, e20.getD 1 .undef, e20.getD 2 .undef, e20.getD 3 .undef] 3).bind fun e29 =>
    (gcall G none 30 [x26, x27, x28, e29.getD 0 .undef, e29.getD 1 .undef, e29.getD 2 .undef] 3).bind fun e32 =>
    (gev none .idx [e12.getD 0 .undef, x16]).bind fun _x35 =>
    (gev none .mkagg [e32.getD 0 .undef, e32.getD 1 .undef, e32.getD 2 .undef]).bind fun x36 =>
    (gev none .set [e12.getD 0 .undef, x16, x36]).bind fun x37 =>
    (gev none .idx [x37, x17]).bind fun _x38 =>
    (gev none .idx [x37, x17]).bind fun x39 =>
    (gev none (.proj 0) [x39]).bind fun x40 =>
    (gev none (.proj 1) [x39]).bind fun x41 =>
    (gev none (.proj 2) [x39]).bind fun x42 =>
    (gev none (.fneg .f32) [e20.getD 3 .undef]).bind fun x43 =>
    (gcall G none 31 [e20.getD 0 .undef, e20.getD 1 .undef, e20.getD 2 .undef, x43] 3).bind fun e44 =>
    (gcall G none 30 [x40, x41, x42, e44.getD 0 .undef, e44.getD 1 .undef, e44.getD 2 .undef] 3).bind fun e47 =>
    (gev none .idx [x37, x17]).bind fun _x50 =>
    (gev none .mkagg [e47.getD 0 .undef, e47.getD 1 .undef, e47.getD 2 .undef]).bind fun x51 =>
    (gev none .set [x37, x17, x51]).bind fun x52 =>
    (gev none (.iar .add .i64) [e12.getD 1 .undef, .int 1]).bind fun x53 =>
    some (0, [x52, x53])) (
    some (1, [e12.getD 0 .undef, e12.getD 1 .undef, x14]))
def S521s (G : Told) (fuel : Nat) (x0 x1 x2 x3 x4 x5 x6 x7 x8 : D) : Option (Nat × List D) :=
 (gev none .len [x0]).bind fun x9 =>
 (gev none .rep [x9, (.agg [.flt 0, .flt 0, .flt 0])]).bind fun x10 =>
 (gev none .len [x2]).bind fun x11 =>
 tjoin 3 (
  iter (tbody 2 (S521sL4 G x0 x1 x2 x3 x4 x5 x6 x7 x8 x11)) fuel [x10, .int 0]) fun e12 =>
 (gev none .len [x1]).bind fun x15 =>
 tjoin 3 (
  iter (tbody 2 (S521sL3 G fuel x0 x1 x3 x15)) fuel [e12.getD 0 .undef, .int 0]) fun e16 =>
 (gcall G none 523 [x0, x1] 1).bind fun e19 =>
 (gev none .len [e19.getD 0 .undef]).bind fun x20 =>
 tjoin 3 (
  iter (tbody 2 (S521sL1 G x0 x1 x4 e19 x20)) fuel [e16.getD 0 .undef, .int 0]) fun e21 =>
 (gev none .len [x0]).bind fun x24 =>
 tjoin 3 (
  iter (tbody 2 (S521sL0 G x5 x6 x7 x8 x24)) fuel [e21.getD 0 .undef, .int 0]) fun e25 =>
 some (0, [e25.getD 0 .undef])
theorem eq521s {G fuel} (x0 x1 x2 x3 x4 x5 x6 x7 x8) : run G fuel T521s [x0, x1, x2, x3, x4, x5, x6, x7, x8] = S521s G fuel x0 x1 x2 x3 x4 x5 x6 x7 x8 := by rw [run_eq]; kernel_rfl
theorem c522 {G : Told} (g522 : G 522 = F522) {us : List V3} {p : Int} {v : V3} {k : Nat} (h : inr us.length p = true) : gcall G none 522 [.int p, .flt v.x, .flt v.y, .flt v.z, .flt k, vl us] 1 = some [vl (pushP us p v k)] := gcall_on g522 rfl (F522_m h) rfl
theorem inr_nat {n i : Nat} (h : i < n) : inr n (i : Int) = true := by
 unfold inr
 simp only [Bool.and_eq_true, decide_eq_true_eq]
 omega
theorem c524 {G : Told} (g524 : G 524 = F524) {vs : List V3} {b : D} {p q r s : Int} (h1 : inr vs.length p = true) (h2 : inr vs.length q = true) (h3 : inr vs.length r = true) (h4 : inr vs.length s = true) : gcall G none 524 [vl vs, b, il [p, q, r, s]] 3 = some [.flt (bentP vs [p, q, r, s]).x, .flt (bentP vs [p, q, r, s]).y, .flt (bentP vs [p, q, r, s]).z] :=
 gcall_on g524 rfl (by
  show ((dV (vl vs)).bind fun vs => _) = _
  rw [dV_vl, Option.bind_some, if_pos (by rw [h1, h2, h3, h4]; rfl)]
  rfl) rfl
theorem c201 {G : Told} (g201 : G 201 = F201) {vs : List V3} {ts : List (List Int)} {ss : List Sp} {fm bn x y z : Nat} {ws : List Nat} {s : Sp} (ha : inr vs.length s.a = true) (hb : inr vs.length s.b = true) : gcall G none 201 [vl vs, tl ts, sl ss, .flt fm, .flt bn, fl ws, .flt x, .flt y, .flt z, .int s.a, .int s.b, .flt s.l, .flt s.k] 3 = some [.flt (dirS vs s).x, .flt (dirS vs s).y, .flt (dirS vs s).z] :=
 gcall_on g201 rfl (F201_m (B := ⟨vs, ts, ss, fm, bn, ws, x, y, z⟩) ha hb) rfl
theorem c520 {G : Told} (g520 : G 520 = F520) {v : V3} {a b : Int} {l k : Nat} : gcall G none 520 [.flt v.x, .flt v.y, .flt v.z, .int a, .int b, .flt l, .flt k] 1 = some [.flt (pullP v l k)] := gcall_on g520 rfl rfl rfl
theorem s_0 {s : Sp} : gev none (.proj 0) [spr s] = some (.int s.a) := (rfl)
theorem s_1 {s : Sp} : gev none (.proj 1) [spr s] = some (.int s.b) := (rfl)
theorem s_2 {s : Sp} : gev none (.proj 2) [spr s] = some (.flt s.l) := (rfl)
theorem s_3 {s : Sp} : gev none (.proj 3) [spr s] = some (.flt s.k) := (rfl)
theorem i40 {a b c d : Int} : gev none .idx [il [a, b, c, d], .int 0] = some (.int a) := (rfl)
theorem i41 {a b c d : Int} : gev none .idx [il [a, b, c, d], .int 1] = some (.int b) := (rfl)
theorem i42 {a b c d : Int} : gev none .idx [il [a, b, c, d], .int 2] = some (.int c) := (rfl)
theorem i43 {a b c d : Int} : gev none .idx [il [a, b, c, d], .int 3] = some (.int d) := (rfl)
theorem hinF4 (vs : List V3) (bn : Nat) (a b c d : Int) (u : List V3) : hinF vs bn [a, b, c, d] u = pushP (pushP (pushP (pushP u a (bentP vs [a, b, c, d]) bn) b (bentP vs [a, b, c, d]) bn) c (bentP vs [a, b, c, d]) (fneg .f32 bn)) d (bentP vs [a, b, c, d]) (fneg .f32 bn) := rfl
attribute [local irreducible] IntKind.wrap il tl vl fl sl inr longP fgt fdiv fmul fsub fadd fneg plc pushP frcS frcT frcH frcW hinF triN bentP dirS pullP spr

theorem loopW {G : Told} (g522 : G 522 = F522) {ws : List Nat} {v : V3} {us : List V3} (hw : ws.length = us.length) (hn : us.length ≤ 64) {F : Nat} (hF : 4200 < F) : iter (tbody 2 (S521L0 G (fl ws) (.flt v.x) (.flt v.y) (.flt v.z) (.int (ws.length : Int)))) F [vl us, .int 0] = some (0, [vl (frcW ws v us ws.length), .int (ws.length : Int), .bool false]) := by
 have e0 : frcW ws v us 0 = us := by rw [frcW]
 have h1 := iter_to (body := tbody 2 (S521L0 G (fl ws) (.flt v.x) (.flt v.y) (.flt v.z) (.int (ws.length : Int)))) (n := ws.length) (f := F) (l := 0) (ds := [vl (frcW ws v us ws.length), .int (ws.length : Int), .bool false]) (fun i => [vl (frcW ws v us i), .int (i : Int)]) (by omega) (fun i hi => ?_) ?_
 ·simp only [e0] at h1
  exact h1
 ·refine tb rfl ?_
  have h0 : decide ((i : Int) < (ws.length : Int)) = true := by simpa using hi
  have hr := idx_fl hi;rw [← getD_lt (d := 0) hi] at hr;have hadd := add1n (i := i) (by omega)
  have hl := frcW_len ws v us i;have c1 := c522 g522 (us := frcW ws v us i) (p := (i : Int)) (v := v) (k := ws.getD i 0) (by rw [hl]; exact inr_nat (by omega))
  have hs : frcW ws v us (i + 1) = pushP (frcW ws v us i) (i : Int) v (ws.getD i 0) := by rw [frcW]
  rw [hs];unfold S521L0;simp only [ev0, h0, hr, c1, hadd]
 ·refine tb rfl ?_
  have h0 : decide ((ws.length : Int) < (ws.length : Int)) = false := by simp
  unfold S521L0;simp only [ev0, p_add, Nat.zero_add, h0]
theorem loopH {G : Told} (g522 : G 522 = F522) (g524 : G 524 = F524) {vs us : List V3} {ts hs : List (List Int)} {bn : Nat} (hu : us.length = vs.length) (hh : ∀ i, i < hs.length → ∃ p q r s, hs.getD i [] = [p, q, r, s] ∧ inr vs.length p = true ∧ inr vs.length q = true ∧ inr vs.length r = true ∧ inr vs.length s = true) (hn : hs.length ≤ 4096) {F : Nat} (hF : 4200 < F) : iter (tbody 2 (S521L1 G (vl vs) (tl ts) (.flt bn) [tl hs] (.int (hs.length : Int)))) F [vl us, .int 0] = some (0, [vl (frcH vs hs bn us hs.length), .int (hs.length : Int), .bool false]) := by
 have e0 : frcH vs hs bn us 0 = us := by rw [frcH]
 have h1 := iter_to (body := tbody 2 (S521L1 G (vl vs) (tl ts) (.flt bn) [tl hs] (.int (hs.length : Int)))) (n := hs.length) (f := F) (l := 0) (ds := [vl (frcH vs hs bn us hs.length), .int (hs.length : Int), .bool false]) (fun i => [vl (frcH vs hs bn us i), .int (i : Int)]) (by omega) (fun i hi => ?_) ?_
 ·simp only [e0] at h1
  exact h1
 ·refine tb rfl ?_
  have h0 : decide ((i : Int) < (hs.length : Int)) = true := by simpa using hi
  have hr := p_ti hi;have hadd := add1n (i := i) (by omega)
  have hl := frcH_len vs hs bn us i;obtain ⟨p, q, r, s, hq, k1, k2, k3, k4⟩ := hh i hi;rw [hq] at hr;have hs : frcH vs hs bn us (i + 1) = hinF vs bn [p, q, r, s] (frcH vs hs bn us i) := by rw [frcH, hq]
  rw [hs, hinF4];have c0 := c524 g524 (b := tl ts) k1 k2 k3 k4;generalize bentP vs [p, q, r, s] = v at *;generalize frcH vs _ bn us i = w at *;have c1 := c522 g522 (us := w) (p := p) (v := v) (k := bn) (by rw [hl, hu]; exact k1)
  have c2 := c522 g522 (us := pushP w p v bn) (p := q) (v := v) (k := bn) (by rw [pushP_len, hl, hu]; exact k2)
  have c3 := c522 g522 (us := pushP (pushP w p v bn) q v bn) (p := r) (v := v) (k := fneg .f32 bn) (by rw [pushP_len, pushP_len, hl, hu]; exact k3)
  have c4 := c522 g522 (us := pushP (pushP (pushP w p v bn) q v bn) r v (fneg .f32 bn)) (p := s) (v := v) (k := fneg .f32 bn) (by rw [pushP_len, pushP_len, pushP_len, hl, hu]; exact k4)
  unfold S521L1;simp only [ev0, h0, hr, c0, i40, i41, i42, i43, p_fneg, c1, c2, c3, c4, hadd]
 ·refine tb rfl ?_
  have h0 : decide ((hs.length : Int) < (hs.length : Int)) = false := by simp
  unfold S521L1;simp only [ev0, p_add, Nat.zero_add, h0]
theorem loopS {G : Told} (g522 : G 522 = F522) (g201 : G 201 = F201) (g520 : G 520 = F520) {vs us : List V3} {ts : List (List Int)} {ss : List Sp} {fm bn x y z : Nat} {ws : List Nat} (hu : us.length = vs.length) (hh : ∀ i, i < ss.length → inr vs.length (ss.getD i ⟨0, 0, 0, 0⟩).a = true ∧ inr vs.length (ss.getD i ⟨0, 0, 0, 0⟩).b = true) (hn : ss.length ≤ 4096) {F : Nat} (hF : 4200 < F) : iter (tbody 2 (S521L4 G (vl vs) (tl ts) (sl ss) (.flt fm) (.flt bn) (fl ws) (.flt x) (.flt y) (.flt z) (.int (ss.length : Int)))) F [vl us, .int 0] = some (0, [vl (frcS vs ss us ss.length), .int (ss.length : Int), .bool false]) := by
 have e0 : frcS vs ss us 0 = us := by rw [frcS]
 have h1 := iter_to (body := tbody 2 (S521L4 G (vl vs) (tl ts) (sl ss) (.flt fm) (.flt bn) (fl ws) (.flt x) (.flt y) (.flt z) (.int (ss.length : Int)))) (n := ss.length) (f := F) (l := 0) (ds := [vl (frcS vs ss us ss.length), .int (ss.length : Int), .bool false]) (fun i => [vl (frcS vs ss us i), .int (i : Int)]) (by omega) (fun i hi => ?_) ?_
 ·simp only [e0] at h1
  exact h1
 ·refine tb rfl ?_
  have h0 : decide ((i : Int) < (ss.length : Int)) = true := by simpa using hi
  have hr := idx_sl hi;rw [← getD_lt (d := ⟨0, 0, 0, 0⟩) hi] at hr;have hadd := add1n (i := i) (by omega)
  have hl := frcS_len vs ss us i;obtain ⟨k1, k2⟩ := hh i hi;rw [frcS];generalize ss.getD i ⟨0, 0, 0, 0⟩ = s at *;have c0 := c201 g201 (ts := ts) (ss := ss) (fm := fm) (bn := bn) (ws := ws) (x := x) (y := y) (z := z) k1 k2;generalize dirS vs s = v at *;have cp := c520 g520 (v := v) (a := s.a) (b := s.b) (l := s.l) (k := s.k);generalize pullP v s.l s.k = g at *;generalize frcS vs ss us i = w at *;have c1 := c522 g522 (us := w) (p := s.a) (v := v) (k := g) (by rw [hl, hu]; exact k1)
  have c2 := c522 g522 (us := pushP w s.a v g) (p := s.b) (v := v) (k := fneg .f32 g) (by rw [pushP_len, hl, hu]; exact k2)
  unfold S521L4;simp only [ev0, h0, hr, s_0, s_1, s_2, s_3, c0, cp, p_fneg, c1, c2, hadd]
 ·refine tb rfl ?_
  have h0 : decide ((ss.length : Int) < (ss.length : Int)) = false := by simp
  unfold S521L4;simp only [ev0, p_add, Nat.zero_add, h0]
end Vs
