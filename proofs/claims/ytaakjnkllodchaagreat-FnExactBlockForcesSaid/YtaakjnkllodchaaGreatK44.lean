/-
  BlockForces, and its law.
-/
import Derived.Test.YtaakjnkllodchaaGreatK43
set_option maxHeartbeats 4000000
namespace Vs
open Go Go.Sort
noncomputable def onBI (p : Bd → Int → Option (List D)) (ds : List D) : Option (List D) := (dB ds).bind fun q => match q.2 with | [.int i] => p q.1 i | _ => none
theorem onBI_m (p : Bd → Int → Option (List D)) (B : Bd) (i : Int) : onBI p (bd B ++ [.int i]) = p B i := by simp only [onBI, dB_bd, Option.bind_some]
theorem onBI_inv {p : Bd → Int → Option (List D)} {ds rs : List D} (h : onBI p ds = some rs) : ∃ B i, ds = bd B ++ [.int i] ∧ p B i = some rs := by
 unfold onBI at h
 obtain ⟨⟨B, r⟩, hb, h⟩ := Option.bind_eq_some_iff.1 h
 dsimp only at h
 split at h
 ·exact ⟨B, _, dB_inv hb, h⟩
 ·cases h
def blkL (B : Bd) (i : Int) : List V3 := ((frcB B).take (min (i + 8) (B.vs.length : Int)).toNat).drop i.toNat
def blkP (B : Bd) (i : Int) : List D := if (validB B && (inr B.vs.length i && (i.tmod 8 == 0))) = true then [vl (blkL B i), .bool true] else [vl [], .bool false]
noncomputable def F525 : List D → Option (List D) := onBI fun B i => if szB B ≤ 1048576 then some (blkP B i) else none
open Classical in
noncomputable def F530 : List D → Option (List D) := onBI fun B _ => if lawB B then some [.bool true] else none
theorem blkP_ok (B : Bd) (h : szB B ≤ 1048576) (i : Int) : ∃ U w, blkP B i = [vl U, .bool w] ∧ U.length ≤ 1048576 := by
 unfold blkP
 split
 ·refine ⟨_, _, rfl, ?_⟩
  have e : szB B = szM B.vs B.ts + B.ss.length + B.ws.length := rfl;have e2 : szM B.vs B.ts = B.vs.length + B.ts.length + totL B.ts := rfl;have hl := frcB_len B;unfold blkL;rw [List.length_drop, List.length_take];omega
 ·exact ⟨[], false, rfl, by simp⟩
theorem p_rem8 {x : Int} : gev none (.idv .rem .i64) [.int x, .int 8] = some (.int (x.tmod 8)) := (rfl)
theorem sub_vl {l : List V3} {a b : Int} (h0 : 0 ≤ a) (h1 : a ≤ b) (h2 : b ≤ (l.length : Int)) : gev none .sub [vl l, .int a, .int b] = some (vl ((l.take b.toNat).drop a.toNat)) := by
 simp only [gev, gok, if_true, Prim.ev, vl]
 rw [if_pos ⟨h0, h1, by simpa using h2⟩]
 simp [List.map_take, List.map_drop]
theorem app_0v {l : List V3} (h : l.length ≤ 1048576) : gev none .app [vl [], vl l] = some (vl l) := by
 simp only [gev, gok, if_true, Prim.ev, vl]
 rw [if_pos (by simp; omega)]
 simp
theorem mk_0v : gev none .mklst [] = some (vl []) := by unfold vl; rfl
theorem c19 {G : Told} (g19 : G 19 = F19) {n : Nat} {p : Int} : gcall G none 19 [.int p, .int 0, .int ((n : Int) - 1)] 1 = some [.bool (inr n p)] := gcall_on g19 rfl (F19_in _ _) rfl
theorem lst_0v : D.lst [] = vl [] := rfl
def T525 : T :=
(oo .len [0] <|
cc 195 [0, 1, 2, 3, 4, 5, 6, 7, 8] 1 <|
oo .bnot [11] <|
oN 12 .id [9] <|
oN 12 .id [10] <|
oN 12 (.iar .sub .i64) [14, kI 1] <|
cN 12 19 [13, kI 0, 15] 1 <|
oN 12 .bnot [16] <|
oo .pick [12, kT, 17] <|
oN 18 .id [9] <|
oN 18 (.idv .rem .i64) [19, kI 8] <|
oN 18 (.icm .neq) [20, kI 0] <|
oo .pick [18, kT, 21] <|
.ite 22
 (.out 0 [kL, kN])
 (oo .mklst [] <|
 cc 521 [0, 1, 2, 3, 4, 5, 6, 7, 8] 1 <|
 oo (.iar .add .i64) [9, kI 8] <|
 oo .imin [25, 10] <|
 oo .sub [24, 9, 26] <|
 oo .app [23, 27] <|
 .out 0 [28, kT]))
def S525 (G : Told) (_fuel : Nat) (x0 x1 x2 x3 x4 x5 x6 x7 x8 x9 : D) : Option (Nat × List D) :=
 (gev none .len [x0]).bind fun x10 =>
 (gcall G none 195 [x0, x1, x2, x3, x4, x5, x6, x7, x8] 1).bind fun e11 =>
 (gev none .bnot [e11.getD 0 .undef]).bind fun x12 =>
 (gev (some (x12, false)) .id [x9]).bind fun x13 =>
 (gev (some (x12, false)) .id [x10]).bind fun x14 =>
 (gev (some (x12, false)) (.iar .sub .i64) [x14, .int 1]).bind fun x15 =>
 (gcall G (some (x12, false)) 19 [x13, .int 0, x15] 1).bind fun e16 =>
 (gev (some (x12, false)) .bnot [e16.getD 0 .undef]).bind fun x17 =>
 (gev none .pick [x12, .bool true, x17]).bind fun x18 =>
 (gev (some (x18, false)) .id [x9]).bind fun x19 =>
 (gev (some (x18, false)) (.idv .rem .i64) [x19, .int 8]).bind fun x20 =>
 (gev (some (x18, false)) (.icm .neq) [x20, .int 0]).bind fun x21 =>
 (gev none .pick [x18, .bool true, x21]).bind fun x22 =>
 tif x22 (
  some (0, [(.lst []), (.bool false)])) (
  (gev none .mklst []).bind fun x23 =>
  (gcall G none 521 [x0, x1, x2, x3, x4, x5, x6, x7, x8] 1).bind fun e24 =>
  (gev none (.iar .add .i64) [x9, .int 8]).bind fun x25 =>
  (gev none .imin [x25, x10]).bind fun x26 =>
  (gev none .sub [e24.getD 0 .undef, x9, x26]).bind fun x27 =>
  (gev none .app [x23, x27]).bind fun x28 =>
  some (0, [x28, .bool true]))
theorem eq525 {G fuel} (x0 x1 x2 x3 x4 x5 x6 x7 x8 x9) : run G fuel T525 [x0, x1, x2, x3, x4, x5, x6, x7, x8, x9] = S525 G fuel x0 x1 x2 x3 x4 x5 x6 x7 x8 x9 := by rw [run_eq]; kernel_rfl
def T525s : T :=
(oo .len [0] <|
cc 195 [0, 1, 2, 3, 4, 5, 6, 7, 8] 1 <|
oo .bnot [11] <|
oN 12 .id [9] <|
oN 12 .id [10] <|
oN 12 (.iar .sub .i64) [14, kI 1] <|
cN 12 19 [13, kI 0, 15] 1 <|
oN 12 .bnot [16] <|
oo .pick [12, kT, 17] <|
oN 18 .id [9] <|
oN 18 (.idv .rem .i64) [19, kI 8] <|
oN 18 (.icm .neq) [20, kI 0] <|
oo .pick [18, kT, 21] <|
.ite 22
 (.out 0 [kL, kN])
 (cc 521 [0, 1, 2, 3, 4, 5, 6, 7, 8] 1 <|
 oo .mklst [] <|
 oo (.iar .add .i64) [9, kI 8] <|
 cc 453 [10, 25] 1 <|
 oo .sub [23, 9, 26] <|
 oo .app [24, 27] <|
 .out 0 [28, kT]))
def S525s (G : Told) (_fuel : Nat) (x0 x1 x2 x3 x4 x5 x6 x7 x8 x9 : D) : Option (Nat × List D) :=
 (gev none .len [x0]).bind fun x10 =>
 (gcall G none 195 [x0, x1, x2, x3, x4, x5, x6, x7, x8] 1).bind fun e11 =>
 (gev none .bnot [e11.getD 0 .undef]).bind fun x12 =>
 (gev (some (x12, false)) .id [x9]).bind fun x13 =>
 (gev (some (x12, false)) .id [x10]).bind fun x14 =>
 (gev (some (x12, false)) (.iar .sub .i64) [x14, .int 1]).bind fun x15 =>
 (gcall G (some (x12, false)) 19 [x13, .int 0, x15] 1).bind fun e16 =>
 (gev (some (x12, false)) .bnot [e16.getD 0 .undef]).bind fun x17 =>
 (gev none .pick [x12, .bool true, x17]).bind fun x18 =>
 (gev (some (x18, false)) .id [x9]).bind fun x19 =>
 (gev (some (x18, false)) (.idv .rem .i64) [x19, .int 8]).bind fun x20 =>
 (gev (some (x18, false)) (.icm .neq) [x20, .int 0]).bind fun x21 =>
 (gev none .pick [x18, .bool true, x21]).bind fun x22 =>
 tif x22 (
  some (0, [(.lst []), (.bool false)])) (
  (gcall G none 521 [x0, x1, x2, x3, x4, x5, x6, x7, x8] 1).bind fun e23 =>
  (gev none .mklst []).bind fun x24 =>
  (gev none (.iar .add .i64) [x9, .int 8]).bind fun x25 =>
  (gcall G none 453 [x10, x25] 1).bind fun e26 =>
  (gev none .sub [e23.getD 0 .undef, x9, e26.getD 0 .undef]).bind fun x27 =>
  (gev none .app [x24, x27]).bind fun x28 =>
  some (0, [x28, .bool true]))
theorem eq525s {G fuel} (x0 x1 x2 x3 x4 x5 x6 x7 x8 x9) : run G fuel T525s [x0, x1, x2, x3, x4, x5, x6, x7, x8, x9] = S525s G fuel x0 x1 x2 x3 x4 x5 x6 x7 x8 x9 := by rw [run_eq]; kernel_rfl
def T530 : T :=
(cc 182 [0, 1, 2, 3, 4, 5, 6, 7, 8, kI 1048576] 1 <|
oo (.icm .lss) [10, kI 0] <|
.ite 11
 (.out 0 [kT])
 (cc 186 [0, 1, 2, 3, 4, 5, 6, 7, 8] 9 <|
 cc 525 [12, 13, 14, 15, 16, 17, 18, 19, 20, 9] 2 <|
 cc 186 [0, 1, 2, 3, 4, 5, 6, 7, 8] 9 <|
 cc 525 [23, 24, 25, 26, 27, 28, 29, 30, 31, 9] 2 <|
 cc 127 [32, 21] 1 <|
 oo .bnot [34] <|
 oN 35 .id [33] <|
 oN 35 .id [22] <|
 oN 35 .bne [36, 37] <|
 oo .pick [35, kT, 38] <|
 .ite 39
  (.out 0 [kN])
  (cc 186 [0, 1, 2, 3, 4, 5, 6, 7, 8] 9 <|
  cc 190 [23, 24, 25, 26, 27, 28, 29, 30, 31, 40, 41, 42, 43, 44, 45, 46, 47, 48] 1 <|
  oo .bnot [49] <|
  .ite 50
   (.out 0 [kN])
   (cc 193 [23, 24, 25, 26, 27, 28, 29, 30, 31, kI 1] 5 <|
   oo (.icm .lss) [51, kI 0] <|
   cN 56 127 [32, 21] 1 <|
   oN 56 .bnot [57] <|
   oo .pick [56, kT, 58] <|
   oN 59 .id [33] <|
   oN 59 .id [22] <|
   oN 59 .bne [60, 61] <|
   oo .pick [59, kT, 62] <|
   .ite 63
    (.out 0 [kN])
    (cc 128 [32, kI 1] 2 <|
    cc 129 [65, kI 1] 1 <|
    oo (.icm .lss) [66, kI 0] <|
    .ite 67
     (.out 0 [kN])
     (oo (.icm .neq) [66, 64] <|
     .ite 68
      (.out 0 [kN])
      (cc 186 [0, 1, 2, 3, 4, 5, 6, 7, 8] 9 <|
      cc 525 [69, 70, 71, 72, 73, 74, 75, 76, 77, 9] 2 <|
      cc 127 [78, 21] 1 <|
      oo .bnot [80] <|
      oN 81 .id [79] <|
      oN 81 .id [22] <|
      oN 81 .bne [82, 83] <|
      oo .pick [81, kT, 84] <|
      .ite 85
       (.out 0 [kN])
       (cc 129 [65, kI 1] 1 <|
       oo (.icm .lss) [86, kI 0] <|
       .ite 87
        (.out 0 [kN])
        (oo (.icm .neq) [86, 64] <|
        .ite 88
         (.out 0 [kN])
         (.out 0 [kT]))))))))))
def S530 (G : Told) (_fuel : Nat) (x0 x1 x2 x3 x4 x5 x6 x7 x8 x9 : D) : Option (Nat × List D) :=
 (gcall G none 182 [x0, x1, x2, x3, x4, x5, x6, x7, x8, .int 1048576] 1).bind fun e10 =>
 (gev none (.icm .lss) [e10.getD 0 .undef, .int 0]).bind fun x11 =>
 tif x11 (
  some (0, [.bool true])) (
  (gcall G none 186 [x0, x1, x2, x3, x4, x5, x6, x7, x8] 9).bind fun e12 =>
  (gcall G none 525 [e12.getD 0 .undef, e12.getD 1 .undef, e12.getD 2 .undef, e12.getD 3 .undef, e12.getD 4 .undef, e12.getD 5 .undef, e12.getD 6 .undef, e12.getD 7 .undef, e12.getD 8 .undef, x9] 2).bind fun e21 =>
  (gcall G none 186 [x0, x1, x2, x3, x4, x5, x6, x7, x8] 9).bind fun e23 =>
  (gcall G none 525 [e23.getD 0 .undef, e23.getD 1 .undef, e23.getD 2 .undef, e23.getD 3 .undef, e23.getD 4 .undef, e23.getD 5 .undef, e23.getD 6 .undef, e23.getD 7 .undef, e23.getD 8 .undef, x9] 2).bind fun e32 =>
  (gcall G none 127 [e32.getD 0 .undef, e21.getD 0 .undef] 1).bind fun e34 =>
  (gev none .bnot [e34.getD 0 .undef]).bind fun x35 =>
  (gev (some (x35, false)) .id [e32.getD 1 .undef]).bind fun x36 =>
  (gev (some (x35, false)) .id [e21.getD 1 .undef]).bind fun x37 =>
  (gev (some (x35, false)) .bne [x36, x37]).bind fun x38 =>
  (gev none .pick [x35, .bool true, x38]).bind fun x39 =>
  tif x39 (
   some (0, [.bool false])) (
   (gcall G none 186 [x0, x1, x2, x3, x4, x5, x6, x7, x8] 9).bind fun e40 =>
   (gcall G none 190 [e23.getD 0 .undef, e23.getD 1 .undef, e23.getD 2 .undef, e23.getD 3 .undef, e23.getD 4 .undef, e23.getD 5 .undef, e23.getD 6 .undef, e23.getD 7 .undef, e23.getD 8 .undef, e40.getD 0 .undef, e40.getD 1 .undef, e40.getD 2 .undef, e40.getD 3 .undef, e40.getD 4 .undef, e40.getD 5 .undef, e40.getD 6 .undef, e40.getD 7 .undef, e40.getD 8 .undef] 1).bind fun e49 =>
   (gev none .bnot [e49.getD 0 .undef]).bind fun x50 =>
   tif x50 (
    some (0, [.bool false])) (
    (gcall G none 193 [e23.getD 0 .undef, e23.getD 1 .undef, e23.getD 2 .undef, e23.getD 3 .undef, e23.getD 4 .undef, e23.getD 5 .undef, e23.getD 6 .undef, e23.getD 7 .undef, e23.getD 8 .undef, .int 1] 5).bind fun e51 =>
    (gev none (.icm .lss) [e51.getD 0 .undef, .int 0]).bind fun x56 =>
    (gcall G (some (x56, false)) 127 [e32.getD 0 .undef, e21.getD 0 .undef] 1).bind fun e57 =>
    (gev (some (x56, false)) .bnot [e57.getD 0 .undef]).bind fun x58 =>
    (gev none .pick [x56, .bool true, x58]).bind fun x59 =>
    (gev (some (x59, false)) .id [e32.getD 1 .undef]).bind fun x60 =>
    (gev (some (x59, false)) .id [e21.getD 1 .undef]).bind fun x61 =>
    (gev (some (x59, false)) .bne [x60, x61]).bind fun x62 =>
    (gev none .pick [x59, .bool true, x62]).bind fun x63 =>
    tif x63 (
     some (0, [.bool false])) (
     (gcall G none 128 [e32.getD 0 .undef, .int 1] 2).bind fun e64 =>
     (gcall G none 129 [e64.getD 1 .undef, .int 1] 1).bind fun e66 =>
     (gev none (.icm .lss) [e66.getD 0 .undef, .int 0]).bind fun x67 =>
     tif x67 (
      some (0, [.bool false])) (
      (gev none (.icm .neq) [e66.getD 0 .undef, e64.getD 0 .undef]).bind fun x68 =>
      tif x68 (
       some (0, [.bool false])) (
       (gcall G none 186 [x0, x1, x2, x3, x4, x5, x6, x7, x8] 9).bind fun e69 =>
       (gcall G none 525 [e69.getD 0 .undef, e69.getD 1 .undef, e69.getD 2 .undef, e69.getD 3 .undef, e69.getD 4 .undef, e69.getD 5 .undef, e69.getD 6 .undef, e69.getD 7 .undef, e69.getD 8 .undef, x9] 2).bind fun e78 =>
       (gcall G none 127 [e78.getD 0 .undef, e21.getD 0 .undef] 1).bind fun e80 =>
       (gev none .bnot [e80.getD 0 .undef]).bind fun x81 =>
       (gev (some (x81, false)) .id [e78.getD 1 .undef]).bind fun x82 =>
       (gev (some (x81, false)) .id [e21.getD 1 .undef]).bind fun x83 =>
       (gev (some (x81, false)) .bne [x82, x83]).bind fun x84 =>
       (gev none .pick [x81, .bool true, x84]).bind fun x85 =>
       tif x85 (
        some (0, [.bool false])) (
        (gcall G none 129 [e64.getD 1 .undef, .int 1] 1).bind fun e86 =>
        (gev none (.icm .lss) [e86.getD 0 .undef, .int 0]).bind fun x87 =>
        tif x87 (
         some (0, [.bool false])) (
         (gev none (.icm .neq) [e86.getD 0 .undef, e64.getD 0 .undef]).bind fun x88 =>
         tif x88 (
          some (0, [.bool false])) (
          some (0, [.bool true]))))))))))
theorem eq530 {G fuel} (x0 x1 x2 x3 x4 x5 x6 x7 x8 x9) : run G fuel T530 [x0, x1, x2, x3, x4, x5, x6, x7, x8, x9] = S530 G fuel x0 x1 x2 x3 x4 x5 x6 x7 x8 x9 := by rw [run_eq]; kernel_rfl
attribute [local irreducible] IntKind.wrap il tl vl fl sl inr validB frcB blkL szB

theorem run525 {G : Told} (g19 : G 19 = F19) (g195 : G 195 = F195) (g521 : G 521 = F521) : Runs G F525 T525 := by
 intro ds rs h
 obtain ⟨B, i, rfl, hp⟩ := onBI_inv h
 clear h
 split at hp
 case isFalse => cases hp
 rename_i hz
 simp only [Option.some.injEq] at hp
 subst hp
 have k1 : gcall G none 195 (bd B) 1 = some [.bool (validB B)] := gcall_on g195 rfl (F195_m hz) rfl
 have k2 : validB B = true → gcall G none 521 (bd B) 1 = some [vl (frcB B)] := fun hv => gcall_on g521 rfl (F521_m hv) rfl
 have hl := frcB_len B
 have hn : validB B = true → B.vs.length ≤ 64 := fun hv => (validB_spr hv).1
 have e2 := len_vl (l := B.vs)
 have hq : blkL B i = ((frcB B).take (min (i + 8) (B.vs.length : Int)).toNat).drop i.toNat := by unfold blkL; rfl
 unfold blkP
 generalize frcB B = L at *
 generalize validB B = val at *
 generalize blkL B i = K at *
 obtain ⟨vs, ts, ss, fm, bn, ws, x, y, z⟩ := B
 dsimp only at hl hn e2 hq ⊢
 simp only [bd, List.cons_append, List.nil_append] at k1 k2 ⊢
 refine ⟨0, ?_⟩
 rw [eq525]
 unfold S525
 cases val with
 | false =>
  rw [Bool.false_and, if_neg (by simp)]
  simp only [ev0, p_add, List.replicate, k1, e2, lst_0v]
 | true =>
 have k2 := k2 rfl
 have hn := hn rfl
 have sb : IntKind.wrap .i64 ((vs.length : Int) - 1) = (vs.length : Int) - 1 := wrap_id (by omega) (by omega)
 have k3 := c19 g19 (n := vs.length) (p := i)
 rw [Bool.true_and]
 cases hi : inr vs.length i with
 | false =>
  rw [hi] at k3;rw [Bool.false_and, if_neg (by simp)]
  simp only [ev0, p_add, p_sub, p_imin, k1, e2, sb, k3, lst_0v]
 | true =>
 rw [hi] at k3
 have hb := inr_iff.1 hi
 rw [Bool.true_and]
 by_cases h8 : i.tmod 8 = 0
 case neg =>
  have h9 : (i.tmod 8 != 0) = true := by simpa using h8
  have h7 : (i.tmod 8 == 0) = false := by simpa using h8
  rw [h7, if_neg (by simp)]
  simp only [ev0, p_add, p_sub, p_imin, k1, e2, sb, k3, p_rem8, h9, lst_0v]
 have h9 : (i.tmod 8 != 0) = false := by simpa using h8
 have h7 : (i.tmod 8 == 0) = true := by simpa using h8
 rw [h7, if_pos rfl]
 have ad : IntKind.wrap .i64 (i + 8) = i + 8 := wrap_id (by omega) (by omega)
 have k5 := sub_vl (l := L) (a := i) (b := min (i + 8) (vs.length : Int)) hb.1 (by omega) (by omega)
 rw [← hq] at k5
 have hk : K.length ≤ 1048576 := by rw [hq, List.length_drop, List.length_take];omega
 have k6 := app_0v hk
 simp only [ev0, p_add, p_sub, p_imin, k1, e2, sb, k3, p_rem8, h9, mk_0v, k2, ad, k5, k6]
theorem run525s {G : Told} (g19 : G 19 = F19) (g195 : G 195 = F195) (g453 : G 453 = F453) (g521 : G 521 = F521) : Runs G F525 T525s := by
 intro ds rs h
 obtain ⟨B, i, rfl, hp⟩ := onBI_inv h
 clear h
 split at hp
 case isFalse => cases hp
 rename_i hz
 simp only [Option.some.injEq] at hp
 subst hp
 have k1 : gcall G none 195 (bd B) 1 = some [.bool (validB B)] := gcall_on g195 rfl (F195_m hz) rfl
 have k2 : validB B = true → gcall G none 521 (bd B) 1 = some [vl (frcB B)] := fun hv => gcall_on g521 rfl (F521_m hv) rfl
 have hl := frcB_len B
 have hn : validB B = true → B.vs.length ≤ 64 := fun hv => (validB_spr hv).1
 have e2 := len_vl (l := B.vs)
 have hq : blkL B i = ((frcB B).take (min (i + 8) (B.vs.length : Int)).toNat).drop i.toNat := by unfold blkL; rfl
 unfold blkP
 generalize frcB B = L at *
 generalize validB B = val at *
 generalize blkL B i = K at *
 obtain ⟨vs, ts, ss, fm, bn, ws, x, y, z⟩ := B
 dsimp only at hl hn e2 hq ⊢
 simp only [bd, List.cons_append, List.nil_append] at k1 k2 ⊢
 refine ⟨0, ?_⟩
 rw [eq525s]
 unfold S525s
 cases val with
 | false =>
  rw [Bool.false_and, if_neg (by simp)]
  simp only [ev0, p_add, List.replicate, k1, e2, lst_0v]
 | true =>
 have k2 := k2 rfl
 have hn := hn rfl
 have sb : IntKind.wrap .i64 ((vs.length : Int) - 1) = (vs.length : Int) - 1 := wrap_id (by omega) (by omega)
 have k3 := c19 g19 (n := vs.length) (p := i)
 rw [Bool.true_and]
 cases hi : inr vs.length i with
 | false =>
  rw [hi] at k3;rw [Bool.false_and, if_neg (by simp)]
  simp only [ev0, p_add, p_sub, k1, e2, sb, k3, lst_0v]
 | true =>
 rw [hi] at k3
 have hb := inr_iff.1 hi
 rw [Bool.true_and]
 by_cases h8 : i.tmod 8 = 0
 case neg =>
  have h9 : (i.tmod 8 != 0) = true := by simpa using h8
  have h7 : (i.tmod 8 == 0) = false := by simpa using h8
  rw [h7, if_neg (by simp)]
  simp only [ev0, p_add, p_sub, k1, e2, sb, k3, p_rem8, h9, lst_0v]
 have h9 : (i.tmod 8 != 0) = false := by simpa using h8
 have h7 : (i.tmod 8 == 0) = true := by simpa using h8
 rw [h7, if_pos rfl]
 have ad : IntKind.wrap .i64 (i + 8) = i + 8 := wrap_id (by omega) (by omega)
 have k5 := sub_vl (l := L) (a := i) (b := min (i + 8) (vs.length : Int)) hb.1 (by omega) (by omega)
 rw [← hq] at k5
 have hk : K.length ≤ 1048576 := by rw [hq, List.length_drop, List.length_take];omega
 have k6 := app_0v hk
 have k7 : gcall G none 453 [.int (vs.length : Int), .int (i + 8)] 1 = some [.int (min (i + 8) (vs.length : Int))] := gcall_on g453 rfl (by show some [D.int (min _ _)] = _; rw [Int.min_comm]) rfl
 simp only [ev0, p_add, p_sub, k1, e2, sb, k3, p_rem8, h9, mk_0v, k2, ad, k7, k5, k6]
theorem run530 {G : Told} (g127 : G 127 = F127) (g128 : G 128 = F128) (g129 : G 129 = F129) (g182 : G 182 = F182) (g186 : G 186 = F186) (g190 : G 190 = F190) (g193 : G 193 = F193) (g525 : G 525 = F525) : Runs G F530 T530 := by
 intro ds rs h
 obtain ⟨B, i, rfl, hp⟩ := onBI_inv h
 replace h := hp
 clear hp
 split at h
 case isFalse => cases h
 rename_i hc
 simp only [Option.some.injEq] at h
 subst h
 have z1 := F182_m hc
 have t1 := F186_m (B := B)
 have q1 := F190_m (B := B)
 have m1 := F193_m (B := B)
 have hr : szB B ≤ 1048576 → ∃ U w, F525 (bd B ++ [.int i]) = some [vl U, .bool w] ∧ U.length ≤ 1048576 := by intro h1;unfold F525;rw [onBI_m, if_pos h1];obtain ⟨U, w, e, hu⟩ := blkP_ok B h1 i;exact ⟨U, w, congrArg some e, hu⟩
 have hmk : 0 < mkB B := by unfold mkB; omega
 generalize mkB B = km at hmk m1
 generalize szB B = n at *
 obtain ⟨vs, ts, ss, fm, bn, ws, x, y, z⟩ := B
 simp only [bd, List.cons_append, List.nil_append] at z1 t1 q1 m1 hr ⊢
 refine ⟨0, ?_⟩
 rw [eq530]
 unfold S530
 by_cases hn : n ≤ 1048576
 case neg =>
  rw [szP_neg hn] at z1
  repeat' first
  | with_reducible refine st_ift ?_
  | ((with_reducible apply st_call); exact g182; exact rfl; exact z1; exact rfl)
  | ((with_reducible apply st_t); exact rfl; exact rfl)
  | exact rfl
 rw [szP_pos hn] at z1
 have d1 : decide ((1048576 : Int) - (n : Nat) < 0) = false := by simp; omega
 have t1 := t1 hn
 have q1 := q1 hn
 obtain ⟨U, w, hr, hu⟩ := hr hn
 obtain ⟨ma, mb, mc, md, m1⟩ := m1 hn
 have v1 := F127_vl hu
 have v2 := F128_vl (m := 1) hu (by omega) (by omega)
 have v3 := F129_vl (n := U.length) (m := 1) hu (by omega) (by omega)
 generalize vl (marksV 1 U.length) = ka at *
 have d3 : decide (km < 0) = false := by simp; omega
 have d4 : decide ((1 : Int) + 3 * (U.length : Nat) < 0) = false := by simp; omega
 have d5 : ((1 : Int) + 3 * (U.length : Nat) != 1 + 3 * (U.length : Nat)) = false := by simp
 cases w
 ·repeat' first
   | with_reducible refine st_iff ?_
   | ((with_reducible apply st_call); exact g182; exact rfl; exact z1; exact rfl)
   | ((with_reducible apply st_call); exact g186; exact rfl; exact t1; exact rfl)
   | ((with_reducible apply st_call); exact g525; exact rfl; exact hr; exact rfl)
   | ((with_reducible apply st_call); exact g127; exact rfl; exact v1; exact rfl)
   | ((with_reducible apply st_call); exact g190; exact rfl; exact q1; exact rfl)
   | ((with_reducible apply st_call); exact g193; exact rfl; exact m1; exact rfl)
   | ((with_reducible apply st_call); exact g128; exact rfl; exact v2; exact rfl)
   | ((with_reducible apply st_call); exact g129; exact rfl; exact v3; exact rfl)
   | ((with_reducible apply st_f); exact rfl; exact rfl)
   | ((with_reducible apply st_f); exact rfl; assumption)
   | exact rfl
 ·repeat' first
   | with_reducible refine st_iff ?_
   | ((with_reducible apply st_call); exact g182; exact rfl; exact z1; exact rfl)
   | ((with_reducible apply st_call); exact g186; exact rfl; exact t1; exact rfl)
   | ((with_reducible apply st_call); exact g525; exact rfl; exact hr; exact rfl)
   | ((with_reducible apply st_call); exact g127; exact rfl; exact v1; exact rfl)
   | ((with_reducible apply st_call); exact g190; exact rfl; exact q1; exact rfl)
   | ((with_reducible apply st_call); exact g193; exact rfl; exact m1; exact rfl)
   | ((with_reducible apply st_call); exact g128; exact rfl; exact v2; exact rfl)
   | ((with_reducible apply st_call); exact g129; exact rfl; exact v3; exact rfl)
   | ((with_reducible apply st_t); exact rfl; exact rfl)
   | ((with_reducible apply st_f); exact rfl; exact rfl)
   | ((with_reducible apply st_f); exact rfl; assumption)
   | exact rfl
end Vs
