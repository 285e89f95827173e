/-
  CutHole, and its law.
-/
import Derived.Test.YtaakjnkllodchaaK9
import Derived.Test.YtaakjnkllodchaaNx3
set_option maxHeartbeats 4000000
namespace Vs
open Go Go.Sort
theorem inr_iff' {n p : Int} : inr n p = true ↔ 0 ≤ p ∧ p < n := by
 unfold inr
 simp only [Bool.and_eq_true, decide_eq_true_eq]
 omega
def holL (ts : List (List Int)) (k : Nat) : List (List Int) := ts.take k ++ ts.drop (k + 1)
def cutN (ts : List (List Int)) (k : Nat) : Nat → List (List Int)
 | 0 => []
 | i + 1 => if i = k then cutN ts k i else cutN ts k i ++ [ts.getD i []]
theorem cutN_len (ts : List (List Int)) (k : Nat) : ∀ i, (cutN ts k i).length ≤ i
 | 0 => by simp [cutN]
 | i + 1 => by have := cutN_len ts k i;unfold cutN;split <;> simp <;> omega
theorem cutN_lo (ts : List (List Int)) (k : Nat) : ∀ i, i ≤ k → i ≤ ts.length → cutN ts k i = ts.take i
 | 0, _, _ => by simp [cutN]
 | i + 1, h, hl => by
  rw [cutN, if_neg (by omega), cutN_lo ts k i (by omega) (by omega), List.take_add_one, getD_lt (by omega), List.getElem?_eq_getElem (by omega)]
  rfl
theorem cutN_hi (ts : List (List Int)) (k : Nat) : ∀ j, k + 1 + j ≤ ts.length → cutN ts k (k + 1 + j) = ts.take k ++ (ts.drop (k + 1)).take j
 | 0, h => by
  rw [Nat.add_zero, cutN, if_pos rfl, cutN_lo ts k k (Nat.le_refl _) (by omega)]
  simp
 | j + 1, h => by
  rw [show k + 1 + (j + 1) = (k + 1 + j) + 1 by omega, cutN, if_neg (by omega), cutN_hi ts k j (by omega), List.append_assoc, List.take_add_one, getD_lt (by omega), List.getElem?_drop, List.getElem?_eq_getElem (by omega)]
  rfl
theorem cutN_all {ts : List (List Int)} {k : Nat} (h : k < ts.length) : cutN ts k ts.length = holL ts k := by
 have := cutN_hi ts k (ts.length - (k + 1)) (by omega)
 rw [show k + 1 + (ts.length - (k + 1)) = ts.length by omega] at this
 rw [this]
 unfold holL
 rw [List.take_of_length_le (l := ts.drop (k + 1)) (by rw [List.length_drop]; exact Nat.le_refl _)]
def cutP (vs : List V3) (ts : List (List Int)) (i : Int) : List D := if (validP vs.length ts && inr ts.length i) = true then [vl vs, tl (holL ts i.toNat), .bool true] else [vl [], tl [], .bool false]
noncomputable def F531 : List D → Option (List D)
 | [a, b, .int i] => (dV a).bind fun vs => (dT b).bind fun ts => if szM vs ts ≤ 1048576 then some (cutP vs ts i) else none
 | _ => none
open Classical in
noncomputable def F532 : List D → Option (List D)
 | [a, b, .int _] => (dV a).bind fun vs => (dT b).bind fun ts => if lawM vs ts then some [.bool true] else none
 | _ => none
theorem F531_m {vs : List V3} {ts : List (List Int)} {i : Int} (h : szM vs ts ≤ 1048576) : F531 [vl vs, tl ts, .int i] = some (cutP vs ts i) := by
 simp only [F531, dV_vl, dT_tl, Option.bind_some]
 rw [if_pos h]
theorem totL_hol (ts : List (List Int)) (k : Nat) : totL (holL ts k) ≤ totL ts := by
 have e : totL ts = totL (ts.take k) + totL (ts.drop k) := by unfold totL;rw [← List.sum_append_nat, ← List.map_append, List.take_append_drop]
 have e2 : totL (ts.drop (k + 1)) ≤ totL (ts.drop k) := by
  rw [← List.drop_drop];generalize ts.drop k = l
  cases l with
  | nil => simp
  | cons a l =>
   unfold totL;simp
 have e3 : totL (holL ts k) = totL (ts.take k) + totL (ts.drop (k + 1)) := by unfold holL totL;simp
 omega
theorem cutP_ok {vs : List V3} {ts : List (List Int)} {i : Int} (h : szM vs ts ≤ 1048576) : ∃ us ss b, cutP vs ts i = [vl us, tl ss, .bool b] ∧ szM us ss ≤ 1048576 := by
 unfold cutP
 split
 ·refine ⟨_, _, _, rfl, ?_⟩
  have := totL_hol ts i.toNat;have h2 : (holL ts i.toNat).length ≤ ts.length := by unfold holL;simp;omega
  unfold szM at h ⊢;omega
 ·exact ⟨[], [], _, rfl, by unfold szM totL; simp⟩
theorem F440_tl {ts : List (List Int)} {i : Int} (h : inr ts.length i = true) (hl : ts.length ≤ 1048576) : F440 [tl ts, .int i, .int (i + 1)] = some [tl (holL ts i.toNat)] := by
 have hb := inr_iff'.1 h
 unfold tl F440
 dsimp only
 rw [if_pos ⟨rfl, hb.1, by simpa using hb.2, by simpa using hl⟩]
 unfold holL
 simp [List.map_take, List.map_drop]
theorem app_tl1' {l : List (List Int)} {t : List Int} (h : l.length < 1048576) : gev none .app [tl l, tl [t]] = some (tl (l ++ [t])) := by
 simp only [gev, gok, if_true, Prim.ev, tl]
 rw [if_pos (by simp; omega)]
 simp
theorem p_tl1' {t : List Int} : gev none .mklst [il t] = some (tl [t]) := (rfl)
theorem p_ti' {l : List (List Int)} {i : Nat} (h : i < l.length) : gev none .idx [tl l, .int i] = some (il (l.getD i [])) := by rw [idx_tl h, getD_lt h]
theorem mk_0t : gev none .mklst [] = some (tl []) := by unfold tl; rfl
theorem q_lss {x y : Int} : gev none (.icm .lss) [.int x, .int y] = some (.bool (decide (x < y))) := (rfl)
theorem q_neq {x y : Int} : gev none (.icm .neq) [.int x, .int y] = some (.bool (x != y)) := (rfl)
theorem q_add {x y : Int} : gev none (.iar .add .i64) [.int x, .int y] = some (.int (IntKind.wrap .i64 (x + y))) := (rfl)
theorem q_sub {x y : Int} : gev none (.iar .sub .i64) [.int x, .int y] = some (.int (IntKind.wrap .i64 (x - y))) := (rfl)
theorem q_bnot {c : Bool} : gev none .bnot [.bool c] = some (.bool !c) := (rfl)
theorem q_id {x : D} : gev none .id [x] = some x := (rfl)
theorem q_pt {x y : D} : gev none .pick [.bool true, x, y] = some x := (rfl)
theorem q_pf {x y : D} : gev none .pick [.bool false, x, y] = some y := (rfl)
theorem q_skip {p : Prim} {xs : List D} : gev (some (.bool true, false)) p xs = some .undef := (rfl)
theorem q_ff {p : Prim} {xs : List D} : gev (some (.bool false, false)) p xs = gev none p xs := (rfl)
theorem r_skip {G : Told} {f m : Nat} {xs : List D} : gcall G (some (.bool true, false)) f xs m = some (List.replicate m .undef) := (rfl)
theorem r_ff {G : Told} {f m : Nat} {xs : List D} : gcall G (some (.bool false, false)) f xs m = gcall G none f xs m := (rfl)
theorem wrap_id' {x : Int} (h0 : -9223372036854775808 ≤ x) (h1 : x < 9223372036854775808) : IntKind.wrap .i64 x = x := by
 simp only [IntKind.wrap, IntKind.bits, IntKind.signed]
 have e : (2 : Int) ^ 64 = 18446744073709551616 := by decide
 simp only [e, Bool.true_and]
 split
 ·rename_i h
  simp at h;omega
 ·rename_i h
  simp at h;omega
def T531 : T :=
(cc 156 [0, 1, 2] 1 <|
oo .bnot [3] <|
.ite 4
 (.out 0 [kL, kL, kN])
 (cc 151 [0, 1] 2 <|
 oo (.iar .add .i64) [2, kI 1] <|
 cc 440 [6, 2, 7] 1 <|
 .out 0 [5, 8, kT]))
def S531 (G : Told) (_fuel : Nat) (x0 x1 x2 : D) : Option (Nat × List D) :=
 (gcall G none 156 [x0, x1, x2] 1).bind fun e3 =>
 (gev none .bnot [e3.getD 0 .undef]).bind fun x4 =>
 tif x4 (
  some (0, [(.lst []), (.lst []), (.bool false)])) (
  (gcall G none 151 [x0, x1] 2).bind fun e5 =>
  (gev none (.iar .add .i64) [x2, .int 1]).bind fun x7 =>
  (gcall G none 440 [e5.getD 1 .undef, x2, x7] 1).bind fun e8 =>
  some (0, [e5.getD 0 .undef, e8.getD 0 .undef, .bool true]))
theorem eq531 {G fuel} (x0 x1 x2) : run G fuel T531 [x0, x1, x2] = S531 G fuel x0 x1 x2 := by rw [run_eq]; kernel_rfl
def T531s : T :=
(cc 150 [0, 1] 1 <|
oo .bnot [3] <|
oN 4 .id [2] <|
oN 4 .len [1] <|
oN 4 (.iar .sub .i64) [6, kI 1] <|
cN 4 19 [5, kI 0, 7] 1 <|
oN 4 .bnot [8] <|
oo .pick [4, kT, 9] <|
.ite 10
 (.out 0 [kL, kL, kN])
 (cc 151 [0, 1] 2 <|
 oo .mklst [] <|
 .join 7
  (.loop [1, 12, 13, kI 0]
   (oo .len [15] <|
   oo (.icm .lss) [17, 18] <|
   .ite 19
    (oo (.icm .neq) [17, 2] <|
    .join 1
     (.ite 20
      (oo .idx [15, 17] <|
      oo .idx [15, 17] <|
      oo .mklst [22] <|
      oo .app [16, 23] <|
      .out 0 [24])
      (.out 0 [16]))
    (oo (.iar .add .i64) [17, kI 1] <|
    .out 0 [14, 15, 21, 22]))
    (.out 1 [14, 15, 16, 17, 17, 18, 19])))
 (.out 0 [11, 16, kT])))
def S531sL0 (_G : Told) (x2 : D) : List D → Option (Nat × List D) := fun e14 =>
    (gev none .len [e14.getD 1 .undef]).bind fun x18 =>
    (gev none (.icm .lss) [e14.getD 3 .undef, x18]).bind fun x19 =>
    tif x19 (
     (gev none (.icm .neq) [e14.getD 3 .undef, x2]).bind fun x20 =>
     tjoin 1 (
      tif x20 (
       (gev none .idx [e14.getD 1 .undef, e14.getD 3 .undef]).bind fun _x21 =>
       (gev none .idx [e14.getD 1 .undef, e14.getD 3 .undef]).bind fun x22 =>
       (gev none .mklst [x22]).bind fun x23 =>
       (gev none .app [e14.getD 2 .undef, x23]).bind fun x24 =>
       some (0, [x24])) (
       some (0, [e14.getD 2 .undef]))) fun e21 =>
     (gev none (.iar .add .i64) [e14.getD 3 .undef, .int 1]).bind fun x22 =>
     some (0, [e14.getD 0 .undef, e14.getD 1 .undef, e21.getD 0 .undef, x22])) (
     some (1, [e14.getD 0 .undef, e14.getD 1 .undef, e14.getD 2 .undef, e14.getD 3 .undef, e14.getD 3 .undef, x18, x19]))
def S531s (G : Told) (fuel : Nat) (x0 x1 x2 : D) : Option (Nat × List D) :=
 (gcall G none 150 [x0, x1] 1).bind fun e3 =>
 (gev none .bnot [e3.getD 0 .undef]).bind fun x4 =>
 (gev (some (x4, false)) .id [x2]).bind fun x5 =>
 (gev (some (x4, false)) .len [x1]).bind fun x6 =>
 (gev (some (x4, false)) (.iar .sub .i64) [x6, .int 1]).bind fun x7 =>
 (gcall G (some (x4, false)) 19 [x5, .int 0, x7] 1).bind fun e8 =>
 (gev (some (x4, false)) .bnot [e8.getD 0 .undef]).bind fun x9 =>
 (gev none .pick [x4, .bool true, x9]).bind fun x10 =>
 tif x10 (
  some (0, [(.lst []), (.lst []), (.bool false)])) (
  (gcall G none 151 [x0, x1] 2).bind fun e11 =>
  (gev none .mklst []).bind fun x13 =>
  tjoin 7 (
   iter (tbody 4 (S531sL0 G x2)) fuel [x1, e11.getD 1 .undef, x13, .int 0]) fun e14 =>
  some (0, [e11.getD 0 .undef, e14.getD 2 .undef, .bool true]))
theorem eq531s {G fuel} (x0 x1 x2) : run G fuel T531s [x0, x1, x2] = S531s G fuel x0 x1 x2 := by rw [run_eq]; kernel_rfl
def T532 : T :=
(cc 142 [0, 1, kI 1048576] 1 <|
oo (.icm .lss) [3, kI 0] <|
.ite 4
 (.out 0 [kT])
 (cc 145 [0, 1] 2 <|
 cc 531 [5, 6, 2] 3 <|
 cc 145 [0, 1] 2 <|
 cc 531 [10, 11, 2] 3 <|
 cc 146 [12, 13, 7, 8] 1 <|
 oo .bnot [15] <|
 oN 16 .id [14] <|
 oN 16 .id [9] <|
 oN 16 .bne [17, 18] <|
 oo .pick [16, kT, 19] <|
 .ite 20
  (.out 0 [kN])
  (cc 145 [0, 1] 2 <|
  cc 146 [10, 11, 21, 22] 1 <|
  oo .bnot [23] <|
  .ite 24
   (.out 0 [kN])
   (cc 147 [10, 11, kI 1] 3 <|
   oo (.icm .lss) [25, kI 0] <|
   cN 28 146 [12, 13, 7, 8] 1 <|
   oN 28 .bnot [29] <|
   oo .pick [28, kT, 30] <|
   oN 31 .id [14] <|
   oN 31 .id [9] <|
   oN 31 .bne [32, 33] <|
   oo .pick [31, kT, 34] <|
   .ite 35
    (.out 0 [kN])
    (cc 147 [12, 13, kI 1] 3 <|
    cc 148 [37, 38, kI 1] 1 <|
    oo (.icm .lss) [39, kI 0] <|
    .ite 40
     (.out 0 [kN])
     (oo (.icm .neq) [39, 36] <|
     .ite 41
      (.out 0 [kN])
      (cc 145 [0, 1] 2 <|
      cc 531 [42, 43, 2] 3 <|
      cc 146 [44, 45, 7, 8] 1 <|
      oo .bnot [47] <|
      oN 48 .id [46] <|
      oN 48 .id [9] <|
      oN 48 .bne [49, 50] <|
      oo .pick [48, kT, 51] <|
      .ite 52
       (.out 0 [kN])
       (cc 148 [37, 38, kI 1] 1 <|
       oo (.icm .lss) [53, kI 0] <|
       .ite 54
        (.out 0 [kN])
        (oo (.icm .neq) [53, 36] <|
        .ite 55
         (.out 0 [kN])
         (.out 0 [kT]))))))))))
def S532 (G : Told) (_fuel : Nat) (x0 x1 x2 : D) : Option (Nat × List D) :=
 (gcall G none 142 [x0, x1, .int 1048576] 1).bind fun e3 =>
 (gev none (.icm .lss) [e3.getD 0 .undef, .int 0]).bind fun x4 =>
 tif x4 (
  some (0, [.bool true])) (
  (gcall G none 145 [x0, x1] 2).bind fun e5 =>
  (gcall G none 531 [e5.getD 0 .undef, e5.getD 1 .undef, x2] 3).bind fun e7 =>
  (gcall G none 145 [x0, x1] 2).bind fun e10 =>
  (gcall G none 531 [e10.getD 0 .undef, e10.getD 1 .undef, x2] 3).bind fun e12 =>
  (gcall G none 146 [e12.getD 0 .undef, e12.getD 1 .undef, e7.getD 0 .undef, e7.getD 1 .undef] 1).bind fun e15 =>
  (gev none .bnot [e15.getD 0 .undef]).bind fun x16 =>
  (gev (some (x16, false)) .id [e12.getD 2 .undef]).bind fun x17 =>
  (gev (some (x16, false)) .id [e7.getD 2 .undef]).bind fun x18 =>
  (gev (some (x16, false)) .bne [x17, x18]).bind fun x19 =>
  (gev none .pick [x16, .bool true, x19]).bind fun x20 =>
  tif x20 (
   some (0, [.bool false])) (
   (gcall G none 145 [x0, x1] 2).bind fun e21 =>
   (gcall G none 146 [e10.getD 0 .undef, e10.getD 1 .undef, e21.getD 0 .undef, e21.getD 1 .undef] 1).bind fun e23 =>
   (gev none .bnot [e23.getD 0 .undef]).bind fun x24 =>
   tif x24 (
    some (0, [.bool false])) (
    (gcall G none 147 [e10.getD 0 .undef, e10.getD 1 .undef, .int 1] 3).bind fun e25 =>
    (gev none (.icm .lss) [e25.getD 0 .undef, .int 0]).bind fun x28 =>
    (gcall G (some (x28, false)) 146 [e12.getD 0 .undef, e12.getD 1 .undef, e7.getD 0 .undef, e7.getD 1 .undef] 1).bind fun e29 =>
    (gev (some (x28, false)) .bnot [e29.getD 0 .undef]).bind fun x30 =>
    (gev none .pick [x28, .bool true, x30]).bind fun x31 =>
    (gev (some (x31, false)) .id [e12.getD 2 .undef]).bind fun x32 =>
    (gev (some (x31, false)) .id [e7.getD 2 .undef]).bind fun x33 =>
    (gev (some (x31, false)) .bne [x32, x33]).bind fun x34 =>
    (gev none .pick [x31, .bool true, x34]).bind fun x35 =>
    tif x35 (
     some (0, [.bool false])) (
     (gcall G none 147 [e12.getD 0 .undef, e12.getD 1 .undef, .int 1] 3).bind fun e36 =>
     (gcall G none 148 [e36.getD 1 .undef, e36.getD 2 .undef, .int 1] 1).bind fun e39 =>
     (gev none (.icm .lss) [e39.getD 0 .undef, .int 0]).bind fun x40 =>
     tif x40 (
      some (0, [.bool false])) (
      (gev none (.icm .neq) [e39.getD 0 .undef, e36.getD 0 .undef]).bind fun x41 =>
      tif x41 (
       some (0, [.bool false])) (
       (gcall G none 145 [x0, x1] 2).bind fun e42 =>
       (gcall G none 531 [e42.getD 0 .undef, e42.getD 1 .undef, x2] 3).bind fun e44 =>
       (gcall G none 146 [e44.getD 0 .undef, e44.getD 1 .undef, e7.getD 0 .undef, e7.getD 1 .undef] 1).bind fun e47 =>
       (gev none .bnot [e47.getD 0 .undef]).bind fun x48 =>
       (gev (some (x48, false)) .id [e44.getD 2 .undef]).bind fun x49 =>
       (gev (some (x48, false)) .id [e7.getD 2 .undef]).bind fun x50 =>
       (gev (some (x48, false)) .bne [x49, x50]).bind fun x51 =>
       (gev none .pick [x48, .bool true, x51]).bind fun x52 =>
       tif x52 (
        some (0, [.bool false])) (
        (gcall G none 148 [e36.getD 1 .undef, e36.getD 2 .undef, .int 1] 1).bind fun e53 =>
        (gev none (.icm .lss) [e53.getD 0 .undef, .int 0]).bind fun x54 =>
        tif x54 (
         some (0, [.bool false])) (
         (gev none (.icm .neq) [e53.getD 0 .undef, e36.getD 0 .undef]).bind fun x55 =>
         tif x55 (
          some (0, [.bool false])) (
          some (0, [.bool true]))))))))))
theorem eq532 {G fuel} (x0 x1 x2) : run G fuel T532 [x0, x1, x2] = S532 G fuel x0 x1 x2 := by rw [run_eq]; kernel_rfl
attribute [local irreducible] IntKind.wrap il tl vl inr validP szM holL cutN

theorem run531 {G : Told} (g151 : G 151 = F151) (g156 : G 156 = F156) (g440 : G 440 = F440) : Runs G F531 T531 := by
 intro ds rs h
 unfold F531 at h
 split at h
 case h_2 => cases h
 rename_i a b i
 obtain ⟨vs, ha, h⟩ := Option.bind_eq_some_iff.1 h
 obtain ⟨ts, hb, h⟩ := Option.bind_eq_some_iff.1 h
 rw [dV_inv ha, dT_inv hb]
 split at h
 case isFalse => cases h
 rename_i hc
 simp only [Option.some.injEq] at h
 subst h
 clear ha hb
 refine ⟨0, ?_⟩
 rw [eq531]
 unfold S531 cutP
 have k1 : gcall G none 156 [vl vs, tl ts, .int i] 1 = some [.bool (validP vs.length ts && inr ts.length i)] := gcall_on g156 rfl (F156_m hc) rfl
 cases hv : (validP vs.length ts && inr ts.length i) with
 | false =>
  rw [hv] at k1;rw [if_neg (by simp)]
  refine st_some k1 ?_;refine st_some q_bnot ?_;refine st_ift ?_;rw [show D.lst [] = tl [] by unfold tl; rfl, show vl [] = tl [] by unfold vl tl; rfl]
 | true =>
  rw [hv] at k1;rw [if_pos rfl];simp only [Bool.and_eq_true] at hv;have hb := inr_iff'.1 hv.2;have hl : ts.length ≤ 128 := by have := hv.1;unfold validP at this;simp only [Bool.and_eq_true, decide_eq_true_eq] at this;exact this.1.2
  have k2 : gcall G none 151 [vl vs, tl ts] 2 = some [vl vs, tl ts] := gcall_on g151 rfl (F145_m hc) rfl;have k3 : gcall G none 440 [tl ts, .int i, .int (i + 1)] 1 = some [tl (holL ts i.toNat)] := gcall_on g440 rfl (F440_tl hv.2 (by omega)) rfl
  have k4 : gev none (.iar .add .i64) [.int i, .int 1] = some (.int (i + 1)) := by rw [q_add, wrap_id' (by omega) (by omega)]
  refine st_some k1 ?_;refine st_some q_bnot ?_;refine st_iff ?_;refine st_some k2 ?_;refine st_some k4 ?_;refine st_some k3 ?_;rfl
theorem cut_loop {G : Told} {ts : List (List Int)} {A : D} {i : Int} (hl : ts.length ≤ 128) (hi : inr ts.length i = true) {F : Nat} (hF : 200 < F) : iter (tbody 4 (S531sL0 G (.int i))) F [A, tl ts, tl [], .int 0] = some (0, [A, tl ts, tl (holL ts i.toNat), .int (ts.length : Int), .int (ts.length : Int), .int (ts.length : Int), .bool false]) := by
 have hb := inr_iff'.1 hi
 have e0 : cutN ts i.toNat 0 = [] := by rw [cutN]
 have h1 := iter_to (body := tbody 4 (S531sL0 G (.int i))) (n := ts.length) (f := F) (l := 0) (ds := [A, tl ts, tl (cutN ts i.toNat ts.length), .int (ts.length : Int), .int (ts.length : Int), .int (ts.length : Int), .bool false]) (fun k => [A, tl ts, tl (cutN ts i.toNat k), .int (k : Int)]) (by omega) (fun k hk => ?_) ?_
 ·simp only [e0] at h1
  rw [cutN_all (by omega)] at h1
  exact h1
 ·refine tb rfl ?_
  have h0 : gev none (.icm .lss) [.int (k : Int), .int (ts.length : Int)] = some (.bool true) := q_lss.trans (congrArg (fun b => some (D.bool b)) (by simpa using hk))
  have hr := p_ti' hk;have hadd := add1n (i := k) (by omega)
  have hn := cutN_len ts i.toNat k;have hs : cutN ts i.toNat (k + 1) = if k = i.toNat then cutN ts i.toNat k else cutN ts i.toNat k ++ [ts.getD k []] := by rw [cutN]
  rw [hs];unfold S531sL0;refine st_some len_tl ?_;refine st_some h0 ?_;refine st_ift ?_
  by_cases hk2 : k = i.toNat
  ·have hd : ((k : Int) != i) = false := by rw [bne_eq_false_iff_eq]; omega
   rw [if_pos hk2];refine st_some (q_neq.trans (congrArg (fun b => some (D.bool b)) hd)) ?_
   refine st_join (ds := [tl (cutN ts i.toNat k)]) rfl rfl ?_;refine st_some hadd ?_;rfl
  ·have hd : ((k : Int) != i) = true := by rw [bne_iff_ne]; omega
   rw [if_neg hk2];refine st_some (q_neq.trans (congrArg (fun b => some (D.bool b)) hd)) ?_
   refine st_join (ds := [tl (cutN ts i.toNat k ++ [ts.getD k []])]) ?_ rfl ?_
   ·refine st_ift ?_
    refine st_some hr ?_;refine st_some hr ?_;refine st_some p_tl1' ?_;refine st_some (app_tl1' (by omega)) ?_
    rfl
   refine st_some hadd ?_;rfl
 ·refine tb rfl ?_
  have h0 : gev none (.icm .lss) [.int (ts.length : Int), .int (ts.length : Int)] = some (.bool false) := q_lss.trans (congrArg (fun b => some (D.bool b)) (by simp))
  unfold S531sL0;refine st_some len_tl ?_;refine st_some h0 ?_;rfl
theorem run531s {G : Told} (g19 : G 19 = F19) (g150 : G 150 = F150) (g151 : G 151 = F151) : Runs G F531 T531s := by
 intro ds rs h
 unfold F531 at h
 split at h
 case h_2 => cases h
 rename_i a b i
 obtain ⟨vs, ha, h⟩ := Option.bind_eq_some_iff.1 h
 obtain ⟨ts, hb, h⟩ := Option.bind_eq_some_iff.1 h
 rw [dV_inv ha, dT_inv hb]
 split at h
 case isFalse => cases h
 rename_i hc
 simp only [Option.some.injEq] at h
 subst h
 clear ha hb
 obtain ⟨F, hF⟩ : ∃ F : Nat, 200 < F := ⟨201, by omega⟩
 refine ⟨F, ?_⟩
 rw [eq531s]
 unfold S531s cutP
 have k1 : gcall G none 150 [vl vs, tl ts] 1 = some [.bool (validP vs.length ts)] := gcall_on g150 rfl (F150_m hc) rfl
 have e1 : D.lst [] = tl [] := by unfold tl; rfl
 have e2 : vl [] = tl [] := by unfold vl tl; rfl
 cases hv : validP vs.length ts with
 | false =>
  rw [hv] at k1;rw [Bool.false_and, if_neg (by simp)]
  refine st_some k1 ?_;refine st_some q_bnot ?_;refine st_some q_skip ?_;refine st_some q_skip ?_;refine st_some q_skip ?_;refine st_some r_skip ?_;refine st_some q_skip ?_;refine st_some q_pt ?_;refine st_ift ?_;rw [e1, e2]
 | true =>
 rw [hv] at k1
 have hl : ts.length ≤ 128 := by unfold validP at hv;simp only [Bool.and_eq_true, decide_eq_true_eq] at hv;exact hv.1.2
 have k3 : gcall G none 19 [.int i, .int 0, .int ((ts.length : Int) - 1)] 1 = some [.bool (inr ts.length i)] := gcall_on g19 rfl (F19_in _ _) rfl
 have k4 : gev none (.iar .sub .i64) [.int (ts.length : Int), .int 1] = some (.int ((ts.length : Int) - 1)) := by rw [q_sub, wrap_id' (by omega) (by omega)]
 rw [Bool.true_and]
 refine st_some k1 ?_
 refine st_some q_bnot ?_
 refine st_some (q_ff.trans q_id) ?_
 refine st_some (q_ff.trans len_tl) ?_
 refine st_some (q_ff.trans k4) ?_
 refine st_some (r_ff.trans k3) ?_
 refine st_some (q_ff.trans q_bnot) ?_
 refine st_some q_pf ?_
 cases hi : inr ts.length i with
 | false =>
  rw [if_neg (by simp)]
  refine st_ift ?_;rw [e1, e2]
 | true =>
 rw [if_pos rfl]
 have k2 : gcall G none 151 [vl vs, tl ts] 2 = some [vl vs, tl ts] := gcall_on g151 rfl (F145_m hc) rfl
 refine st_iff ?_
 refine st_some k2 ?_
 refine st_some mk_0t ?_
 refine st_join (cut_loop hl hi hF) rfl ?_
 rfl
theorem run532 {G : Told} (g142 : G 142 = F142) (g145 : G 145 = F145) (g146 : G 146 = F146) (g147 : G 147 = F147) (g148 : G 148 = F148) (g531 : G 531 = F531) : Runs G F532 T532 := by
 intro ds rs h
 unfold F532 at h
 split at h
 case h_2 => cases h
 rename_i a b i
 obtain ⟨vs, ha, h⟩ := Option.bind_eq_some_iff.1 h
 obtain ⟨ts, hb, h⟩ := Option.bind_eq_some_iff.1 h
 rw [dV_inv ha, dT_inv hb]
 split at h
 case isFalse => cases h
 rename_i hc
 simp only [Option.some.injEq] at h
 subst h
 refine ⟨0, ?_⟩
 rw [eq532]
 unfold S532
 have z1 := F142_m hc
 by_cases hsz : szM vs ts ≤ 1048576
 case neg =>
  rw [szP_neg hsz] at z1
  repeat' first
   | with_reducible refine st_ift ?_
   | with_reducible refine st_iff ?_
   | ((with_reducible apply st_call); exact g142; exact rfl; exact z1; exact rfl)
   | ((with_reducible apply st_callt); assumption; exact rfl; exact rfl; assumption)
   | ((with_reducible apply st_callf); assumption; exact rfl; exact rfl; assumption)
   | ((with_reducible apply st_call); assumption; exact rfl; exact rfl; exact rfl)
   | ((with_reducible apply st_wide); exact rfl; exact rfl)
   | ((with_reducible apply st_skip); exact rfl)
   | ((with_reducible apply st_t); exact rfl; exact rfl)
   | ((with_reducible apply st_f); exact rfl; exact rfl)
   | ((with_reducible apply st_t); exact rfl; assumption)
   | ((with_reducible apply st_f); exact rfl; assumption)
   | ((with_reducible apply st_some); exact rfl)
   | exact rfl
 rw [szP_pos hsz] at z1
 have d1 : decide ((1048576 : Int) - (szM vs ts : Nat) < 0) = false := by simp; omega
 have hz : szM vs ts = vs.length + ts.length + totL ts := by unfold szM; rfl
 have t1 := F145_m hsz
 have q1 := F146_m hsz
 have m1 := F147_m (m := 1) hsz (by omega) (by omega)
 have d3 : decide ((1 : Int) + 3 * vs.length + totL ts < 0) = false := by simp; omega
 have hr : ∃ us ss b, F531 [vl vs, tl ts, .int i] = some [vl us, tl ss, .bool b] ∧ szM us ss ≤ 1048576 := by rw [F531_m hsz];obtain ⟨us, ss, b, e, hu⟩ := cutP_ok (i := i) hsz;exact ⟨us, ss, b, congrArg some e, hu⟩
 obtain ⟨us, ss, b, hr, hu⟩ := hr
 have hzu : szM us ss = us.length + ss.length + totL ss := by unfold szM; rfl
 have q3 := F146_m hu
 have m3 := F147_m (m := 1) hu (by omega) (by omega)
 have n3 := F148_m (m := 1) hu (by omega) (by omega)
 have d4 : decide ((1 : Int) + 3 * us.length + totL ss < 0) = false := by simp; omega
 have d5 : ((1 : Int) + 3 * us.length + totL ss != 1 + 3 * us.length + totL ss) = false := by simp
 cases b
 ·repeat' first
   | with_reducible refine st_ift ?_
   | with_reducible refine st_iff ?_
   | ((with_reducible apply st_call); exact g142; exact rfl; exact z1; exact rfl)
   | ((with_reducible apply st_call); exact g531; exact rfl; exact hr; exact rfl)
   | ((with_reducible apply st_call); exact g145; exact rfl; exact t1; exact rfl)
   | ((with_reducible apply st_call); exact g146; exact rfl; exact q1; exact rfl)
   | ((with_reducible apply st_call); exact g146; exact rfl; exact q3; exact rfl)
   | ((with_reducible apply st_call); exact g147; exact rfl; exact m1; exact rfl)
   | ((with_reducible apply st_call); exact g147; exact rfl; exact m3; exact rfl)
   | ((with_reducible apply st_call); exact g148; exact rfl; exact n3; exact rfl)
   | ((with_reducible apply st_callt); assumption; exact rfl; exact rfl; assumption)
   | ((with_reducible apply st_callf); assumption; exact rfl; exact rfl; assumption)
   | ((with_reducible apply st_call); assumption; exact rfl; exact rfl; exact rfl)
   | ((with_reducible apply st_wide); exact rfl; exact rfl)
   | ((with_reducible apply st_skip); exact rfl)
   | ((with_reducible apply st_t); exact rfl; exact rfl)
   | ((with_reducible apply st_f); exact rfl; exact rfl)
   | ((with_reducible apply st_t); exact rfl; assumption)
   | ((with_reducible apply st_f); exact rfl; assumption)
   | ((with_reducible apply st_some); exact rfl)
   | exact rfl
 ·repeat' first
   | with_reducible refine st_ift ?_
   | with_reducible refine st_iff ?_
   | ((with_reducible apply st_call); exact g142; exact rfl; exact z1; exact rfl)
   | ((with_reducible apply st_call); exact g531; exact rfl; exact hr; exact rfl)
   | ((with_reducible apply st_call); exact g145; exact rfl; exact t1; exact rfl)
   | ((with_reducible apply st_call); exact g146; exact rfl; exact q1; exact rfl)
   | ((with_reducible apply st_call); exact g146; exact rfl; exact q3; exact rfl)
   | ((with_reducible apply st_call); exact g147; exact rfl; exact m1; exact rfl)
   | ((with_reducible apply st_call); exact g147; exact rfl; exact m3; exact rfl)
   | ((with_reducible apply st_call); exact g148; exact rfl; exact n3; exact rfl)
   | ((with_reducible apply st_callt); assumption; exact rfl; exact rfl; assumption)
   | ((with_reducible apply st_callf); assumption; exact rfl; exact rfl; assumption)
   | ((with_reducible apply st_call); assumption; exact rfl; exact rfl; exact rfl)
   | ((with_reducible apply st_wide); exact rfl; exact rfl)
   | ((with_reducible apply st_skip); exact rfl)
   | ((with_reducible apply st_t); exact rfl; exact rfl)
   | ((with_reducible apply st_f); exact rfl; exact rfl)
   | ((with_reducible apply st_t); exact rfl; assumption)
   | ((with_reducible apply st_f); exact rfl; assumption)
   | ((with_reducible apply st_some); exact rfl)
   | exact rfl
end Vs
