/-
  Hinges of a mesh: the program's and the reference's.
-/
import Derived.Test.YtaakjnkllodchaaGreatK33
import Derived.Test.YtaakjnkllodchaaGreatK12
set_option maxHeartbeats 4000000
namespace Vs
open Go Go.Sort
def hinR (ts : List (List Int)) (p q : Int) (k : Nat) : List Int := [p, q] ++ (atN ts p q k).map fun j => thirdP (ts.getD j.toNat []) p q
def hinN (ts : List (List Int)) (es : List E2) : Nat → List (List Int)
 | 0 => []
 | i + 1 => hinN ts es i ++ (if (atL ts (es.getD i (0, 0)).1 (es.getD i (0, 0)).2).length = 2 then [hinR ts (es.getD i (0, 0)).1 (es.getD i (0, 0)).2 ts.length] else [])
def hinL (ts : List (List Int)) (n : Nat) : List (List Int) := hinN ts (edgL ts n) (edgL ts n).length
noncomputable def F523 : List D → Option (List D)
 | [a, b] => (dV a).bind fun vs => (dT b).bind fun ts => if validP vs.length ts = true then some [tl (hinL ts vs.length)] else none
 | _ => none
theorem F523_m {vs : List V3} {ts : List (List Int)} (h : validP vs.length ts = true) : F523 [vl vs, tl ts] = some [tl (hinL ts vs.length)] := by
 simp only [F523, dV_vl, dT_tl, Option.bind_some]
 rw [if_pos h]
def triQ (x y z p q : Int) : Bool := decide (x ≠ y ∧ y ≠ z ∧ x ≠ z ∧ p ≠ q)
noncomputable def F529 : List D → Option (List D)
 | [.lst [.int x, .int y, .int z], .int p, .int q] => if triQ x y z p q = true then some [.int (if hasB [x, y, z] p q = true then thirdP [x, y, z] p q else -1)] else none
 | _ => none
theorem hinN_len (ts : List (List Int)) (es : List E2) : ∀ i, (hinN ts es i).length ≤ i
 | 0 => by simp [hinN]
 | i + 1 => by have := hinN_len ts es i;unfold hinN;split <;> simp <;> omega
def T529 : T :=
(cc 205 [0, 1] 1 <|
oo .bnot [3] <|
oN 4 .id [0] <|
oN 4 .id [2] <|
cN 4 205 [5, 6] 1 <|
oN 4 .bnot [7] <|
oo .pick [4, kT, 8] <|
.ite 9
 (.out 0 [(.c (.int (-1)))])
 (oo .len [0] <|
 .join 2
  (.loop [kI 0]
   (oo (.icm .lss) [11, 10] <|
   .ite 12
    (oo .idx [0, 11] <|
    oo (.icm .neq) [13, 1] <|
    oT 14 .id [0] <|
    oT 14 .id [11] <|
    oT 14 .idx [15, 16] <|
    oT 14 .id [17] <|
    oT 14 .id [2] <|
    oT 14 (.icm .neq) [18, 19] <|
    oo .pick [14, 20, kN] <|
    .ite 21
     (oo .idx [0, 11] <|
     .out 2 [22])
     (oo (.iar .add .i64) [11, kI 1] <|
     .out 0 [22]))
    (.out 1 [11, 12])))
 (.out 0 [(.c (.int (-1)))])))
def S529L0 (_G : Told) (x0 : D) (x1 : D) (x2 : D) (x10 : D) : List D → Option (Nat × List D) := fun e11 =>
    (gev none (.icm .lss) [e11.getD 0 .undef, x10]).bind fun x12 =>
    tif x12 (
     (gev none .idx [x0, e11.getD 0 .undef]).bind fun x13 =>
     (gev none (.icm .neq) [x13, x1]).bind fun x14 =>
     (gev (some (x14, true)) .id [x0]).bind fun x15 =>
     (gev (some (x14, true)) .id [e11.getD 0 .undef]).bind fun x16 =>
     (gev (some (x14, true)) .idx [x15, x16]).bind fun x17 =>
     (gev (some (x14, true)) .id [x17]).bind fun x18 =>
     (gev (some (x14, true)) .id [x2]).bind fun x19 =>
     (gev (some (x14, true)) (.icm .neq) [x18, x19]).bind fun x20 =>
     (gev none .pick [x14, x20, .bool false]).bind fun x21 =>
     tif x21 (
      (gev none .idx [x0, e11.getD 0 .undef]).bind fun x22 =>
      some (2, [x22])) (
      (gev none (.iar .add .i64) [e11.getD 0 .undef, .int 1]).bind fun x22 =>
      some (0, [x22]))) (
     some (1, [e11.getD 0 .undef, x12]))
def S529 (G : Told) (fuel : Nat) (x0 x1 x2 : D) : Option (Nat × List D) :=
 (gcall G none 205 [x0, x1] 1).bind fun e3 =>
 (gev none .bnot [e3.getD 0 .undef]).bind fun x4 =>
 (gev (some (x4, false)) .id [x0]).bind fun x5 =>
 (gev (some (x4, false)) .id [x2]).bind fun x6 =>
 (gcall G (some (x4, false)) 205 [x5, x6] 1).bind fun e7 =>
 (gev (some (x4, false)) .bnot [e7.getD 0 .undef]).bind fun x8 =>
 (gev none .pick [x4, .bool true, x8]).bind fun x9 =>
 tif x9 (
  some (0, [(.int (-1))])) (
  (gev none .len [x0]).bind fun x10 =>
  tjoin 2 (
   iter (tbody 1 (S529L0 G x0 x1 x2 x10)) fuel [.int 0]) fun _e11 =>
  some (0, [(.int (-1))]))
theorem eq529 {G fuel} (x0 x1 x2) : run G fuel T529 [x0, x1, x2] = S529 G fuel x0 x1 x2 := by rw [run_eq]; kernel_rfl
def T523 : T :=
(oo .mklst [] <|
cc 401 [0, 1] 2 <|
oo .len [4] <|
.join 3
 (.loop [2, kI 0]
  (oo (.icm .lss) [7, 5] <|
  .ite 8
   (oo .idx [4, 7] <|
   oo .idx [4, 7] <|
   oo (.proj 0) [10] <|
   oo (.proj 1) [10] <|
   oo .mkagg [11, 12] <|
   oo .mget [(.v 3), (.v 13), kL] <|
   oo .len [14] <|
   oo (.icm .eql) [15, kI 2] <|
   .join 1
    (.ite 16
     (oo .idx [14, kI 0] <|
     oo .idx [14, kI 0] <|
     oo .idx [1, 18] <|
     cc 408 [19, 11, 12] 1 <|
     oo .idx [14, kI 1] <|
     oo .idx [14, kI 1] <|
     oo .idx [1, 22] <|
     cc 408 [23, 11, 12] 1 <|
     oo .mklst [11, 12, 20, 24] <|
     oo .mklst [25] <|
     oo .app [6, 26] <|
     .out 0 [27])
     (.out 0 [6]))
   (oo (.iar .add .i64) [7, kI 1] <|
   .out 0 [17, 18]))
   (.out 1 [6, 7, 8])))
(.out 0 [6]))
def S523L0 (G : Told) (x1 : D) (e3 : List D) (x5 : D) : List D → Option (Nat × List D) := fun e6 =>
   (gev none (.icm .lss) [e6.getD 1 .undef, x5]).bind fun x8 =>
   tif x8 (
    (gev none .idx [e3.getD 1 .undef, e6.getD 1 .undef]).bind fun _x9 =>
    (gev none .idx [e3.getD 1 .undef, e6.getD 1 .undef]).bind fun x10 =>
    (gev none (.proj 0) [x10]).bind fun x11 =>
    (gev none (.proj 1) [x10]).bind fun x12 =>
    (gev none .mkagg [x11, x12]).bind fun x13 =>
    (gev none .mget [(e3.getD 0 .undef), x13, (.lst [])]).bind fun x14 =>
    (gev none .len [x14]).bind fun x15 =>
    (gev none (.icm .eql) [x15, .int 2]).bind fun x16 =>
    tjoin 1 (
     tif x16 (
      (gev none .idx [x14, .int 0]).bind fun _x17 =>
      (gev none .idx [x14, .int 0]).bind fun x18 =>
      (gev none .idx [x1, x18]).bind fun x19 =>
      (gcall G none 408 [x19, x11, x12] 1).bind fun e20 =>
      (gev none .idx [x14, .int 1]).bind fun _x21 =>
      (gev none .idx [x14, .int 1]).bind fun x22 =>
      (gev none .idx [x1, x22]).bind fun x23 =>
      (gcall G none 408 [x23, x11, x12] 1).bind fun e24 =>
      (gev none .mklst [x11, x12, e20.getD 0 .undef, e24.getD 0 .undef]).bind fun x25 =>
      (gev none .mklst [x25]).bind fun x26 =>
      (gev none .app [e6.getD 0 .undef, x26]).bind fun x27 =>
      some (0, [x27])) (
      some (0, [e6.getD 0 .undef]))) fun e17 =>
    (gev none (.iar .add .i64) [e6.getD 1 .undef, .int 1]).bind fun x18 =>
    some (0, [e17.getD 0 .undef, x18])) (
    some (1, [e6.getD 0 .undef, e6.getD 1 .undef, x8]))
def S523 (G : Told) (fuel : Nat) (x0 x1 : D) : Option (Nat × List D) :=
 (gev none .mklst []).bind fun x2 =>
 (gcall G none 401 [x0, x1] 2).bind fun e3 =>
 (gev none .len [e3.getD 1 .undef]).bind fun x5 =>
 tjoin 3 (
  iter (tbody 2 (S523L0 G x1 e3 x5)) fuel [x2, .int 0]) fun e6 =>
 some (0, [e6.getD 0 .undef])
theorem eq523 {G fuel} (x0 x1) : run G fuel T523 [x0, x1] = S523 G fuel x0 x1 := by rw [run_eq]; kernel_rfl
def T523s : T :=
(oo .mklst [] <|
cc 413 [0, 1] 1 <|
oo .len [3] <|
.join 3
 (.loop [2, kI 0]
  (oo (.icm .lss) [6, 4] <|
  .ite 7
   (oo .idx [3, 6] <|
   oo .idx [3, 6] <|
   oo .idx [9, kI 0] <|
   oo .idx [9, kI 0] <|
   oo .idx [3, 6] <|
   oo .idx [3, 6] <|
   oo .idx [13, kI 1] <|
   oo .idx [13, kI 1] <|
   oo .mklst [11, 15] <|
   oo .len [1] <|
   .join 3
    (.loop [16, kI 0]
     (oo (.icm .lss) [19, 17] <|
     .ite 20
      (oo .idx [1, 19] <|
      cc 529 [21, 11, 15] 1 <|
      oo (.icm .geq) [22, kI 0] <|
      .join 1
       (.ite 23
        (oo .mklst [22] <|
        oo .app [18, 24] <|
        .out 0 [25])
        (.out 0 [18]))
      (oo (.iar .add .i64) [19, kI 1] <|
      .out 0 [24, 25]))
      (.out 1 [18, 19, 20])))
   (oo .len [18] <|
   oo (.icm .eql) [21, kI 4] <|
   .join 1
    (.ite 22
     (oo .mklst [18] <|
     oo .app [5, 23] <|
     .out 0 [24])
     (.out 0 [5]))
   (oo (.iar .add .i64) [6, kI 1] <|
   .out 0 [23, 24])))
   (.out 1 [5, 6, 7])))
(.out 0 [5]))
def S523sL0 (G : Told) (x1 : D) (x11 : D) (x15 : D) (x17 : D) : List D → Option (Nat × List D) := fun e18 =>
      (gev none (.icm .lss) [e18.getD 1 .undef, x17]).bind fun x20 =>
      tif x20 (
       (gev none .idx [x1, e18.getD 1 .undef]).bind fun x21 =>
       (gcall G none 529 [x21, x11, x15] 1).bind fun e22 =>
       (gev none (.icm .geq) [e22.getD 0 .undef, .int 0]).bind fun x23 =>
       tjoin 1 (
        tif x23 (
         (gev none .mklst [e22.getD 0 .undef]).bind fun x24 =>
         (gev none .app [e18.getD 0 .undef, x24]).bind fun x25 =>
         some (0, [x25])) (
         some (0, [e18.getD 0 .undef]))) fun e24 =>
       (gev none (.iar .add .i64) [e18.getD 1 .undef, .int 1]).bind fun x25 =>
       some (0, [e24.getD 0 .undef, x25])) (
       some (1, [e18.getD 0 .undef, e18.getD 1 .undef, x20]))
def S523sL1 (G : Told) (fuel : Nat) (x1 : D) (e3 : List D) (x4 : D) : List D → Option (Nat × List D) := fun e5 =>
   (gev none (.icm .lss) [e5.getD 1 .undef, x4]).bind fun x7 =>
   tif x7 (
    (gev none .idx [e3.getD 0 .undef, e5.getD 1 .undef]).bind fun _x8 =>
    (gev none .idx [e3.getD 0 .undef, e5.getD 1 .undef]).bind fun x9 =>
    (gev none .idx [x9, .int 0]).bind fun _x10 =>
    (gev none .idx [x9, .int 0]).bind fun x11 =>
    (gev none .idx [e3.getD 0 .undef, e5.getD 1 .undef]).bind fun _x12 =>
    (gev none .idx [e3.getD 0 .undef, e5.getD 1 .undef]).bind fun x13 =>
    (gev none .idx [x13, .int 1]).bind fun _x14 =>
    (gev none .idx [x13, .int 1]).bind fun x15 =>
    (gev none .mklst [x11, x15]).bind fun x16 =>
    (gev none .len [x1]).bind fun x17 =>
    tjoin 3 (
     iter (tbody 2 (S523sL0 G x1 x11 x15 x17)) fuel [x16, .int 0]) fun e18 =>
    (gev none .len [e18.getD 0 .undef]).bind fun x21 =>
    (gev none (.icm .eql) [x21, .int 4]).bind fun x22 =>
    tjoin 1 (
     tif x22 (
      (gev none .mklst [e18.getD 0 .undef]).bind fun x23 =>
      (gev none .app [e5.getD 0 .undef, x23]).bind fun x24 =>
      some (0, [x24])) (
      some (0, [e5.getD 0 .undef]))) fun e23 =>
    (gev none (.iar .add .i64) [e5.getD 1 .undef, .int 1]).bind fun x24 =>
    some (0, [e23.getD 0 .undef, x24])) (
    some (1, [e5.getD 0 .undef, e5.getD 1 .undef, x7]))
def S523s (G : Told) (fuel : Nat) (x0 x1 : D) : Option (Nat × List D) :=
 (gev none .mklst []).bind fun x2 =>
 (gcall G none 413 [x0, x1] 1).bind fun e3 =>
 (gev none .len [e3.getD 0 .undef]).bind fun x4 =>
 tjoin 3 (
  iter (tbody 2 (S523sL1 G fuel x1 e3 x4)) fuel [x2, .int 0]) fun e5 =>
 some (0, [e5.getD 0 .undef])
theorem eq523s {G fuel} (x0 x1) : run G fuel T523s [x0, x1] = S523s G fuel x0 x1 := by rw [run_eq]; kernel_rfl
theorem p_lk4 {a b c d : Int} : gev none .mklst [.int a, .int b, .int c, .int d] = some (il [a, b, c, d]) := (rfl)
theorem p_tl1 {t : List Int} : gev none .mklst [il t] = some (tl [t]) := (rfl)
theorem app_tl1 {l : List (List Int)} {t : List Int} (h : l.length < 1048576) : gev none .app [tl l, tl [t]] = some (tl (l ++ [t])) := by
 simp only [gev, gok, if_true, Prim.ev, tl]
 rw [if_pos (by simp; omega)]
 simp
theorem run529 {G : Told} (g205 : G 205 = F205) : Runs G F529 T529 := by
 intro ds rs h
 unfold F529 at h
 split at h
 case h_2 => cases h
 rename_i x y z p q
 split at h
 case isFalse => cases h
 rename_i hc
 simp only [Option.some.injEq] at h
 subst h
 refine ⟨4, ?_⟩
 rw [eq529]
 unfold S529
 have e : D.lst [.int x, .int y, .int z] = il [x, y, z] := rfl
 rw [e]
 have c1 : gcall G none 205 [il [x, y, z], .int p] 1 = some [.bool ([x, y, z].contains p)] := gcall_on g205 rfl (F205_m (by simp)) rfl
 have c2 : gcall G none 205 [il [x, y, z], .int q] 1 = some [.bool ([x, y, z].contains q)] := gcall_on g205 rfl (F205_m (by simp)) rfl
 have hl : gev none .len [il [x, y, z]] = some (.int 3) := rfl
 unfold triQ at hc
 simp only [decide_eq_true_eq] at hc
 obtain ⟨h1, h2, h3, h4⟩ := hc
 cases hp : [x, y, z].contains p with
 | false =>
  rw [hp] at c1;rw [show hasB [x, y, z] p q = false by unfold hasB; rw [hp]; rfl, if_neg (by simp)]
  simp only [ev0, List.replicate, c1]
 | true =>
 rw [hp] at c1
 cases hq : [x, y, z].contains q with
 | false =>
  rw [hq] at c2;rw [show hasB [x, y, z] p q = false by unfold hasB; rw [hq]; exact Bool.and_false _, if_neg (by simp)]
  simp only [ev0, c1, c2]
 | true =>
 rw [hq] at c2
 rw [show hasB [x, y, z] p q = true by unfold hasB; rw [hp, hq]; rfl, if_pos rfl]
 simp only [List.contains_cons, List.contains_nil, Bool.or_false, Bool.or_eq_true, beq_iff_eq] at hp hq
 have ht : thirdP [x, y, z] p q = x + y + z - p - q := rfl
 rw [ht]
 have k0 : gev none (.icm .lss) [.int 0, .int 3] = some (.bool true) := rfl
 have k1 : gev none (.icm .lss) [.int 1, .int 3] = some (.bool true) := rfl
 have k2 : gev none (.icm .lss) [.int 2, .int 3] = some (.bool true) := rfl
 have a0 : gev none (.iar .add .i64) [.int 0, .int 1] = some (.int 1) := rfl
 have a1 : gev none (.iar .add .i64) [.int 1, .int 1] = some (.int 2) := rfl
 by_cases ex : x ≠ p ∧ x ≠ q
 ·have e1 : (x != p) = true := by simpa using ex.1
  have e2 : (x != q) = true := by simpa using ex.2
  rw [show x + y + z - p - q = x by omega]
  simp (config := { decide := false }) only [iter, tbody, S529L0, p_i0, *, g_tt, g_ff, c_ff, t_t, t_f, j_1, p_id, p_neq, p_pt, p_pf, p_bnot, p_i0, Option.bind_some, List.getD_cons_zero, List.length_cons, List.length_nil, Nat.zero_add, if_true, Bool.not_true]
 ·have fx : (x != p && x != q) = false := by simp only [Bool.and_eq_false_iff, bne_eq_false_iff_eq];omega
  by_cases ey : y ≠ p ∧ y ≠ q
  ·have e1 : (y != p) = true := by simpa using ey.1
   have e2 : (y != q) = true := by simpa using ey.2
   rw [show x + y + z - p - q = y by omega]
   by_cases xp : x = p
   ·subst xp
    simp (config := { decide := false }) only [iter, tbody, S529L0, p_i0, p_i1, bne_self_eq_false, *, g_tt, g_ff, g_ft, c_ff, t_t, t_f, j_1, p_id, p_neq, p_pt, p_pf, p_bnot, p_i0, p_i1, Option.bind_some, List.getD_cons_zero, List.length_cons, List.length_nil, Nat.zero_add, if_true, Bool.not_true]
   ·have e3 : (x != p) = true := by simpa using xp
    have e4 : (x != q) = false := by simp only [bne_eq_false_iff_eq]; omega
    simp (config := { decide := false }) only [iter, tbody, S529L0, p_i0, p_i1, *, g_tt, g_ff, c_ff, t_t, t_f, j_1, p_id, p_neq, p_pt, p_pf, p_bnot, p_i0, p_i1, Option.bind_some, List.getD_cons_zero, List.length_cons, List.length_nil, Nat.zero_add, if_true, Bool.not_true]
  ·have ez1 : (z != p) = true := by simp only [bne_iff_ne]; omega
   have ez2 : (z != q) = true := by simp only [bne_iff_ne]; omega
   rw [show x + y + z - p - q = z by omega]
   by_cases xp : x = p
   ·subst xp
    have e3 : (y != x) = true := by simp only [bne_iff_ne]; omega
    have e4 : (y != q) = false := by simp only [bne_eq_false_iff_eq]; omega
    simp (config := { decide := false }) only [iter, tbody, S529L0, p_i0, p_i1, p_i2, bne_self_eq_false, *, g_tt, g_ff, g_ft, c_ff, t_t, t_f, j_1, p_id, p_neq, p_pt, p_pf, p_bnot, p_i0, p_i1, p_i2, Option.bind_some, List.getD_cons_zero, List.length_cons, List.length_nil, Nat.zero_add, if_true, Bool.not_true]
   ·have e3 : (x != p) = true := by simpa using xp
    have e4 : (x != q) = false := by simp only [bne_eq_false_iff_eq]; omega
    have e5 : (y != p) = false := by simp only [bne_eq_false_iff_eq]; omega
    simp (config := { decide := false }) only [iter, tbody, S529L0, p_i0, p_i1, p_i2, *, g_tt, g_ff, g_ft, c_ff, t_t, t_f, j_1, p_id, p_neq, p_pt, p_pf, p_bnot, p_i0, p_i1, p_i2, Option.bind_some, List.getD_cons_zero, List.length_cons, List.length_nil, Nat.zero_add, if_true, Bool.not_true]
theorem edg_lt {n : Nat} {ts : List (List Int)} {i : Nat} {p q : Int} (h : i < (edgL ts n).length) (he : (edgL ts n).getD i (0, 0) = (p, q)) : p < q := by
 have hm : (edgL ts n)[i] ∈ edgN ts n n := List.getElem_mem h
 obtain ⟨a, b, ha, hb, hab, _, e⟩ := (edgN_mem ts n n _).1 hm
 rw [getD_lt h, e, Prod.mk.injEq] at he
 omega
theorem hinR_two {ts : List (List Int)} {p q u v : Int} (h : atL ts p q = [u, v]) : hinR ts p q ts.length = [p, q, thirdP (ts.getD u.toNat []) p q, thirdP (ts.getD v.toNat []) p q] := by
 unfold hinR
 rw [show atN ts p q ts.length = [u, v] from h]
 rfl
theorem F529_m {x y z p q : Int} (h1 : x ≠ y) (h2 : y ≠ z) (h3 : x ≠ z) (h4 : p ≠ q) : F529 [il [x, y, z], .int p, .int q] = some [.int (if hasB [x, y, z] p q = true then thirdP [x, y, z] p q else -1)] := by
 unfold F529 il
 exact if_pos (by unfold triQ; simp only [decide_eq_true_eq]; exact ⟨h1, h2, h3, h4⟩)
theorem third_ge {x y z p q : Int} (_ : x ≠ y) (_ : y ≠ z) (_ : x ≠ z) (h4 : p ≠ q) (h : hasB [x, y, z] p q = true) (hx : 0 ≤ x) (hy : 0 ≤ y) (hz : 0 ≤ z) : 0 ≤ thirdP [x, y, z] p q := by
 have e : thirdP [x, y, z] p q = x + y + z - p - q := rfl
 rw [e]
 unfold hasB at h
 simp only [List.contains_cons, List.contains_nil, Bool.or_false, Bool.and_eq_true, Bool.or_eq_true, beq_iff_eq] at h
 omega
theorem hinR_step (ts : List (List Int)) (p q : Int) (k : Nat) : hinR ts p q (k + 1) = if hasB (ts.getD k []) p q = true then hinR ts p q k ++ [thirdP (ts.getD k []) p q] else hinR ts p q k := by
 unfold hinR
 rw [atN]
 split
 ·rw [List.map_append, List.append_assoc]
  simp
 ·rfl
theorem hinR_len (ts : List (List Int)) (p q : Int) (k : Nat) : (hinR ts p q k).length = 2 + (atN ts p q k).length := by
 unfold hinR
 simp
 omega
theorem hinR_0 (ts : List (List Int)) (p q : Int) : hinR ts p q 0 = [p, q] := rfl
theorem app_ilx {l : List Int} {v : Int} (h : l.length < 1048576) : gev none .app [il l, il [v]] = some (il (l ++ [v])) := app_il1 h
attribute [local irreducible] IntKind.wrap il tl vl bo mpD kD edl inr validP atL edgL thirdP hinR hinN hasB

theorem run523 {G : Told} (g401 : G 401 = F401) (g408 : G 408 = F408) : Runs G F523 T523 := by
 intro ds rs h
 unfold F523 at h
 split at h
 case h_2 => cases h
 rename_i a b
 obtain ⟨vs, ha, h⟩ := Option.bind_eq_some_iff.1 h
 obtain ⟨ts, hb, h⟩ := Option.bind_eq_some_iff.1 h
 rw [dV_inv ha, dT_inv hb]
 split at h
 case isFalse => cases h
 rename_i hc
 simp only [Option.some.injEq] at h
 subst h
 clear ha
 clear hb
 obtain ⟨hn, h128⟩ := valid_len hc
 have hel := edg_len (ts := ts) hn
 have hT := triOk_of hc
 refine ⟨100000, ?_⟩
 rw [eq523]
 unfold S523
 have c0 : gcall G none 401 [vl vs, tl ts] 2 = some [mpD il (byT ts).1, edl (edgL ts vs.length)] := gcall_on g401 rfl (by rw [F401_m (valid64 hc), sort_edges (triOk_of hc)]) rfl
 have hlen := len_edl (l := edgL ts vs.length)
 have m0 : gev none .mklst [] = some (tl []) := by unfold tl; rfl
 have hit : iter (tbody 2 (S523L0 G (tl ts) [mpD il (byT ts).1, edl (edgL ts vs.length)] (.int ((edgL ts vs.length).length : Int)))) 100000 [tl [], .int 0] = some (0, [tl (hinL ts vs.length), .int ((edgL ts vs.length).length : Int), .bool false]) := by
  unfold hinL;rw [show tl [] = tl (hinN ts (edgL ts vs.length) 0) by rw [hinN]]
  refine iter_to (body := tbody 2 (S523L0 G (tl ts) [mpD il (byT ts).1, edl (edgL ts vs.length)] (.int ((edgL ts vs.length).length : Int)))) (n := (edgL ts vs.length).length) (f := 100000) (l := 0) (ds := [tl (hinN ts (edgL ts vs.length) (edgL ts vs.length).length), .int ((edgL ts vs.length).length : Int), .bool false]) (fun i => [tl (hinN ts (edgL ts vs.length) i), .int (i : Int)]) (by omega) (fun i hi => ?_) ?_
  ·refine tb rfl ?_
   have h0 : decide ((i : Int) < ((edgL ts vs.length).length : Int)) = true := by simpa using hi
   have hr := idx_edl hi;obtain ⟨p, q, he, hpq, hne, _⟩ := edg_get hi;have hlt := edg_lt hi he;rw [he] at hr;have hok := okP_ok (ok_of hc hpq hne);have q1 : gev none .mget [mpD il (byT ts).1, kD (p, q), .lst []] = some (il (atL ts p q)) := by rw [← uE_lt hlt, lst_nil, q_get (kIn_uE ⟨hok.2.1.1, by omega⟩ ⟨hok.2.2.1.1, by omega⟩), getD_map, by_at hT hne]
   have hll := len_il (l := atL ts p q);have hadd := add1n (i := i) (by omega)
   have hln := hinN_len ts (edgL ts vs.length) i;have hs : hinN ts (edgL ts vs.length) (i + 1) = hinN ts (edgL ts vs.length) i ++ (if (atL ts p q).length = 2 then [hinR ts p q ts.length] else []) := by rw [hinN];simp only [he]
   have kk := kD_mk p q;rw [hs];unfold S523L0
   by_cases h2 : (atL ts p q).length = 2
   ·obtain ⟨u, v, huv⟩ := len2 h2
    have d2 : (((atL ts p q).length : Int) == 2) = true := by rw [h2]; rfl
    have hu : u ∈ atL ts p q := by rw [huv]; simp
    have hv : v ∈ atL ts p q := by rw [huv]; simp
    obtain ⟨t1, _, _⟩ := third_at hc g408 hne hu;obtain ⟨t2, _, _⟩ := third_at hc g408 hne hv;have lu : 0 ≤ u ∧ u < (ts.length : Int) := by unfold atL at hu;exact atN_lt ts p q _ u hu
    have lv : 0 ≤ v ∧ v < (ts.length : Int) := by unfold atL at hv;exact atN_lt ts p q _ v hv
    have i1 := p_tj (l := ts) lu.1 lu.2;have i2 := p_tj (l := ts) lv.1 lv.2;have j1 : gev none .idx [il (atL ts p q), .int 0] = some (.int u) := by rw [huv]; exact p_j0
    have j2 : gev none .idx [il (atL ts p q), .int 1] = some (.int v) := by rw [huv]; exact p_j1
    have ha := app_tl1 (l := hinN ts (edgL ts vs.length) i) (t := [p, q, thirdP (ts.getD u.toNat []) p q, thirdP (ts.getD v.toNat []) p q]) (by omega)
    rw [if_pos h2, hinR_two huv];simp only [ev0, j_0, List.length_cons, List.length_nil, Nat.zero_add, if_true, h0, hr, p_k0, p_k1, kk, q1, hll, d2, j1, j2, i1, i2, t1, t2, p_lk4, p_tl1, ha, hadd]
   ·have d2 : (((atL ts p q).length : Int) == 2) = false := by simp; omega
    rw [if_neg h2, List.append_nil];simp only [ev0, j_0, List.length_cons, List.length_nil, Nat.zero_add, if_true, h0, hr, p_k0, p_k1, kk, q1, hll, d2, hadd]
  ·refine tb rfl ?_
   have h0 : decide (((edgL ts vs.length).length : Int) < ((edgL ts vs.length).length : Int)) = false := by simp
   unfold S523L0;simp only [ev0, p_add, p_agg, Nat.zero_add, h0]
 simp only [ev0, j_0, List.length_cons, List.length_nil, Nat.zero_add, Nat.reduceAdd, if_true, c0, hlen, m0, hit]
theorem hin_row {G : Told} (g529 : G 529 = F529) {n : Nat} {ts : List (List Int)} (hc : validP n ts = true) {p q : Int} (hne : p ≠ q) {F : Nat} (hF : 4200 < F) : iter (tbody 2 (S523sL0 G (tl ts) (.int p) (.int q) (.int (ts.length : Int)))) F [il [p, q], .int 0] = some (0, [il (hinR ts p q ts.length), .int (ts.length : Int), .bool false]) := by
 obtain ⟨hn, h128⟩ := valid_len hc
 have hT := triOk_of hc
 rw [← hinR_0 ts p q]
 refine iter_to (body := tbody 2 (S523sL0 G (tl ts) (.int p) (.int q) (.int (ts.length : Int)))) (n := ts.length) (f := F) (l := 0) (ds := [il (hinR ts p q ts.length), .int (ts.length : Int), .bool false]) (fun k => [il (hinR ts p q k), .int (k : Int)]) (by omega) (fun k hk => ?_) ?_
 ·refine tb rfl ?_
  have h0 : decide ((k : Int) < (ts.length : Int)) = true := by simpa using hk
  have i1 := p_ti hk;have hadd := add1n (i := k) (by omega)
  have hs := hinR_step ts p q k;have hl := hinR_len ts p q k;have hal := atN_len ts p q k;obtain ⟨x, y, z, ht, h1, h2, h3, hx, hy, hz⟩ := hT.at hk;rw [ht] at i1 hs;have c1 : gcall G none 529 [il [x, y, z], .int p, .int q] 1 = some [.int (if hasB [x, y, z] p q = true then thirdP [x, y, z] p q else -1)] := gcall_on g529 rfl (F529_m h1 h2 h3 hne) rfl
  rw [hs];unfold S523sL0
  cases hh : hasB [x, y, z] p q with
  | true =>
   have hg := third_ge h1 h2 h3 hne hh hx.1 hy.1 hz.1;have d1 : decide (thirdP [x, y, z] p q ≥ 0) = true := by simpa using hg
   have ha := app_ilx (l := hinR ts p q k) (v := thirdP [x, y, z] p q) (by omega)
   rw [hh, if_pos rfl] at c1;rw [if_pos rfl];simp only [ev0, j_0, p_geq, List.length_cons, List.length_nil, Nat.zero_add, if_true, h0, i1, c1, d1, p_il1, ha, hadd]
  | false =>
   have d1 : decide ((-1 : Int) ≥ 0) = false := by decide
   rw [hh, if_neg (by simp)] at c1
   rw [if_neg (by simp)]
   simp only [ev0, j_0, p_geq, List.length_cons, List.length_nil, Nat.zero_add, if_true, h0, i1, c1, d1, hadd]
 ·refine tb rfl ?_
  have h0 : decide ((ts.length : Int) < (ts.length : Int)) = false := by simp
  unfold S523sL0;simp only [ev0, p_add, Nat.zero_add, h0]
theorem run523s {G : Told} (g413 : G 413 = F413) (g529 : G 529 = F529) : Runs G F523 T523s := by
 intro ds rs h
 unfold F523 at h
 split at h
 case h_2 => cases h
 rename_i a b
 obtain ⟨vs, ha, h⟩ := Option.bind_eq_some_iff.1 h
 obtain ⟨ts, hb, h⟩ := Option.bind_eq_some_iff.1 h
 rw [dV_inv ha, dT_inv hb]
 split at h
 case isFalse => cases h
 rename_i hc
 simp only [Option.some.injEq] at h
 subst h
 clear ha
 clear hb
 obtain ⟨hn, h128⟩ := valid_len hc
 have hel := edg_len (ts := ts) hn
 obtain ⟨F, hF⟩ : ∃ F : Nat, 4200 < F := ⟨5000, by omega⟩
 refine ⟨F, ?_⟩
 rw [eq523s]
 unfold S523s
 have c0 : gcall G none 413 [vl vs, tl ts] 1 = some [tl (etl (edgL ts vs.length))] := gcall_on g413 rfl (F413_m hc) rfl
 have hlen := len_tl (l := etl (edgL ts vs.length))
 rw [etl_len] at hlen
 have hlt := len_tl (l := ts)
 have m0 : gev none .mklst [] = some (tl []) := by unfold tl; rfl
 have hit : iter (tbody 2 (S523sL1 G F (tl ts) [tl (etl (edgL ts vs.length))] (.int ((edgL ts vs.length).length : Int)))) F [tl [], .int 0] = some (0, [tl (hinL ts vs.length), .int ((edgL ts vs.length).length : Int), .bool false]) := by
  unfold hinL;rw [show tl [] = tl (hinN ts (edgL ts vs.length) 0) by rw [hinN]]
  refine iter_to (body := tbody 2 (S523sL1 G F (tl ts) [tl (etl (edgL ts vs.length))] (.int ((edgL ts vs.length).length : Int)))) (n := (edgL ts vs.length).length) (f := F) (l := 0) (ds := [tl (hinN ts (edgL ts vs.length) (edgL ts vs.length).length), .int ((edgL ts vs.length).length : Int), .bool false]) (fun i => [tl (hinN ts (edgL ts vs.length) i), .int (i : Int)]) (by omega) (fun i hi => ?_) ?_
  ·refine tb rfl ?_
   have h0 : decide ((i : Int) < ((edgL ts vs.length).length : Int)) = true := by simpa using hi
   obtain ⟨p, q, he, hpq, hne, hr⟩ := edg_get hi;have hrow := hin_row g529 hc hne hF;have hadd := add1n (i := i) (by omega)
   have hln := hinN_len ts (edgL ts vs.length) i;have hs : hinN ts (edgL ts vs.length) (i + 1) = hinN ts (edgL ts vs.length) i ++ (if (atL ts p q).length = 2 then [hinR ts p q ts.length] else []) := by rw [hinN];simp only [he]
   have hrl := hinR_len ts p q ts.length;have hrl : (hinR ts p q ts.length).length = 2 + (atL ts p q).length := by unfold atL; exact hrl
   have hll := len_il (l := hinR ts p q ts.length);rw [hrl] at hll;rw [hs];unfold S523sL1
   by_cases h2 : (atL ts p q).length = 2
   ·have d2 : (((2 + (atL ts p q).length : Nat) : Int) == 4) = true := by rw [h2]; rfl
    have ha := app_tl1 (l := hinN ts (edgL ts vs.length) i) (t := hinR ts p q ts.length) (by omega)
    rw [if_pos h2];simp only [ev0, j_0, List.length_cons, List.length_nil, Nat.zero_add, Nat.reduceAdd, if_true, h0, hr, p_j0, p_j1, p_il2, hlt, hrow, hll, d2, p_tl1, ha, hadd]
   ·have d2 : (((2 + (atL ts p q).length : Nat) : Int) == 4) = false := by rw [beq_eq_false_iff_ne]; omega
    rw [if_neg h2, List.append_nil];simp only [ev0, j_0, List.length_cons, List.length_nil, Nat.zero_add, Nat.reduceAdd, if_true, h0, hr, p_j0, p_j1, p_il2, hlt, hrow, hll, d2, hadd]
  ·refine tb rfl ?_
   have h0 : decide (((edgL ts vs.length).length : Int) < ((edgL ts vs.length).length : Int)) = false := by simp
   unfold S523sL1;simp only [ev0, p_add, Nat.zero_add, h0]
 simp only [j_0, Option.bind_some, List.getD_cons_zero, List.length_cons, List.length_nil, Nat.zero_add, Nat.reduceAdd, if_true, c0, hlen, m0, hit]
end Vs
