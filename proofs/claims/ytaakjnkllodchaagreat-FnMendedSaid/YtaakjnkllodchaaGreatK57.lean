/-
  Mending: the law.
-/
import Derived.Test.YtaakjnkllodchaaGreatK52
import Derived.Test.YtaakjnkllodchaaGreatK55
import Derived.Test.YtaakjnkllodchaaGreatK56
set_option maxHeartbeats 4000000
namespace Vs
open Go Go.Sort
open Classical in
noncomputable def F562 : List D → Option (List D)
 | [a, b] => (dI a).bind fun l => (dI b).bind fun m => if bytes l ∧ bytes m then some [.bool true] else none
 | _ => none
def T562 : T :=
(cc 220 [0, 1] 1 <|
.ite 2
 (.out 0 [kT])
 (cc 221 [1, kI 0, kI 4] 1 <|
 cc 544 [3] 2 <|
 cc 543 [0, 4, 5] 2 <|
 cc 221 [1, kI 1, kI 8] 1 <|
 oo (.i2f .f32) [8] <|
 oo (.far .quo .f32) [9, kF 1082130432] <|
 cc 221 [1, kI 2, kI 12] 1 <|
 oo (.iar .add .i64) [kI 4, 11] <|
 oo (.i2f .f32) [12] <|
 oo (.far .quo .f32) [13, kF 1082130432] <|
 cc 221 [1, kI 3, kI 6] 1 <|
 cc 504 [6, 7, 10, 14, 15] 4 <|
 cc 445 [6, 7] 2 <|
 cc 445 [16, 17] 2 <|
 cc 500 [16, 17, 10, 14] 4 <|
 oo .bnot [19] <|
 oN 28 .id [21] <|
 oN 28 .bnot [29] <|
 oo .pick [28, kT, 30] <|
 oN 31 .id [23] <|
 oN 31 .bnot [32] <|
 oo .pick [31, kT, 33] <|
 oN 34 .id [27] <|
 oN 34 .bnot [35] <|
 oo .pick [34, kT, 36] <|
 cN 37 403 [16, 17] 1 <|
 oN 37 .bnot [38] <|
 oo .pick [37, kT, 39] <|
 oN 40 .id [20] <|
 oN 40 .id [22] <|
 oN 40 (.icm .neq) [41, 42] <|
 oo .pick [40, kT, 43] <|
 oN 44 .len [18] <|
 oN 44 .id [15] <|
 oN 44 (.icm .gtr) [45, 46] <|
 oo .pick [44, kT, 47] <|
 oN 48 .len [18] <|
 oN 48 .id [15] <|
 oN 48 (.icm .lss) [49, 50] <|
 oN 48 .id [51] <|
 oT 52 .id [26] <|
 oT 52 (.icm .neq) [53, kI 0] <|
 oN 48 .pick [52, 54, kN] <|
 oo .pick [48, kT, 55] <|
 oN 56 .id [26] <|
 oN 56 (.icm .eql) [57, kI 0] <|
 oN 56 .id [58] <|
 cT 59 563 [24, 25, 16, 17] 1 <|
 oT 59 .bnot [60] <|
 oN 56 .pick [59, 61, kN] <|
 oo .pick [56, kT, 62] <|
 .ite 63
  (.out 0 [kN])
  (.join 6
   (.loop [6, 7, kI 0]
    (oo .len [18] <|
    oo (.icm .lss) [66, 67] <|
    .ite 68
     (cc 500 [64, 65, 10, 14] 4 <|
     oo .bnot [72] <|
     oN 73 .id [71] <|
     oN 73 .id [66] <|
     oN 73 .idx [18, 75] <|
     oN 73 .idx [18, 75] <|
     oN 73 (.icm .neq) [74, 77] <|
     oo .pick [73, kT, 78] <|
     oN 79 .id [71] <|
     oN 79 (.icm .eql) [80, kI 0] <|
     oo .pick [79, kT, 81] <|
     .ite 82
      (.out 2 [kN])
      (oo (.iar .add .i64) [66, kI 1] <|
      .out 0 [69, 70, 83]))
     (.out 1 [64, 65, 66, 66, 67, 68])))
  (cc 563 [64, 65, 16, 17] 1 <|
  oo .bnot [70] <|
  .ite 71
   (.out 0 [kN])
   (cc 434 [16, 17] 3 <|
   cc 435 [16, 17] 3 <|
   oT 74 .id [77] <|
   oo .pick [74, 78, kN] <|
   oT 79 .len [72] <|
   oT 79 (.icm .eql) [80, kI 2] <|
   oo .pick [79, 81, kN] <|
   oT 82 .len [75] <|
   oT 82 (.icm .eql) [83, kI 2] <|
   oo .pick [82, 84, kN] <|
   oT 85 .id [73] <|
   oT 85 .id [76] <|
   oT 85 (.fcm .geq .f32) [86, 87] <|
   oo .pick [85, 88, kN] <|
   oT 89 .id [26] <|
   oT 89 (.icm .eql) [90, kI 1] <|
   oT 89 .id [73] <|
   oT 89 .id [14] <|
   oT 89 (.fcm .gtr .f32) [92, 93] <|
   oT 89 .id [94] <|
   oT 95 .len [16] <|
   oT 95 (.icm .lss) [96, kI 64] <|
   oT 89 .pick [95, 97, kN] <|
   oT 89 .id [98] <|
   oT 99 .len [17] <|
   oT 99 (.icm .lss) [100, kI 127] <|
   oT 89 .pick [99, 101, kN] <|
   oT 89 .beq [91, 102] <|
   oo .pick [89, 103, kN] <|
   .out 0 [104])))))
def S562L0 (G : Told) (x10 : D) (x14 : D) (e16 : List D) : List D → Option (Nat × List D) := fun e64 =>
     (gev none .len [e16.getD 2 .undef]).bind fun x67 =>
     (gev none (.icm .lss) [e64.getD 2 .undef, x67]).bind fun x68 =>
     tif x68 (
      (gcall G none 500 [e64.getD 0 .undef, e64.getD 1 .undef, x10, x14] 4).bind fun e69 =>
      (gev none .bnot [e69.getD 3 .undef]).bind fun x73 =>
      (gev (some (x73, false)) .id [e69.getD 2 .undef]).bind fun x74 =>
      (gev (some (x73, false)) .id [e64.getD 2 .undef]).bind fun x75 =>
      (gev (some (x73, false)) .idx [e16.getD 2 .undef, x75]).bind fun _x76 =>
      (gev (some (x73, false)) .idx [e16.getD 2 .undef, x75]).bind fun x77 =>
      (gev (some (x73, false)) (.icm .neq) [x74, x77]).bind fun x78 =>
      (gev none .pick [x73, .bool true, x78]).bind fun x79 =>
      (gev (some (x79, false)) .id [e69.getD 2 .undef]).bind fun x80 =>
      (gev (some (x79, false)) (.icm .eql) [x80, .int 0]).bind fun x81 =>
      (gev none .pick [x79, .bool true, x81]).bind fun x82 =>
      tif x82 (
       some (2, [.bool false])) (
       (gev none (.iar .add .i64) [e64.getD 2 .undef, .int 1]).bind fun x83 =>
       some (0, [e69.getD 0 .undef, e69.getD 1 .undef, x83]))) (
      some (1, [e64.getD 0 .undef, e64.getD 1 .undef, e64.getD 2 .undef, e64.getD 2 .undef, x67, x68]))
def S562 (G : Told) (fuel : Nat) (x0 x1 : D) : Option (Nat × List D) :=
 (gcall G none 220 [x0, x1] 1).bind fun e2 =>
 tif (e2.getD 0 .undef) (
  some (0, [.bool true])) (
  (gcall G none 221 [x1, .int 0, .int 4] 1).bind fun e3 =>
  (gcall G none 544 [e3.getD 0 .undef] 2).bind fun e4 =>
  (gcall G none 543 [x0, e4.getD 0 .undef, e4.getD 1 .undef] 2).bind fun e6 =>
  (gcall G none 221 [x1, .int 1, .int 8] 1).bind fun e8 =>
  (gev none (.i2f .f32) [e8.getD 0 .undef]).bind fun x9 =>
  (gev none (.far .quo .f32) [x9, .flt 1082130432]).bind fun x10 =>
  (gcall G none 221 [x1, .int 2, .int 12] 1).bind fun e11 =>
  (gev none (.iar .add .i64) [.int 4, e11.getD 0 .undef]).bind fun x12 =>
  (gev none (.i2f .f32) [x12]).bind fun x13 =>
  (gev none (.far .quo .f32) [x13, .flt 1082130432]).bind fun x14 =>
  (gcall G none 221 [x1, .int 3, .int 6] 1).bind fun e15 =>
  (gcall G none 504 [e6.getD 0 .undef, e6.getD 1 .undef, x10, x14, e15.getD 0 .undef] 4).bind fun e16 =>
  (gcall G none 445 [e6.getD 0 .undef, e6.getD 1 .undef] 2).bind fun e20 =>
  (gcall G none 445 [e16.getD 0 .undef, e16.getD 1 .undef] 2).bind fun e22 =>
  (gcall G none 500 [e16.getD 0 .undef, e16.getD 1 .undef, x10, x14] 4).bind fun e24 =>
  (gev none .bnot [e16.getD 3 .undef]).bind fun x28 =>
  (gev (some (x28, false)) .id [e20.getD 1 .undef]).bind fun x29 =>
  (gev (some (x28, false)) .bnot [x29]).bind fun x30 =>
  (gev none .pick [x28, .bool true, x30]).bind fun x31 =>
  (gev (some (x31, false)) .id [e22.getD 1 .undef]).bind fun x32 =>
  (gev (some (x31, false)) .bnot [x32]).bind fun x33 =>
  (gev none .pick [x31, .bool true, x33]).bind fun x34 =>
  (gev (some (x34, false)) .id [e24.getD 3 .undef]).bind fun x35 =>
  (gev (some (x34, false)) .bnot [x35]).bind fun x36 =>
  (gev none .pick [x34, .bool true, x36]).bind fun x37 =>
  (gcall G (some (x37, false)) 403 [e16.getD 0 .undef, e16.getD 1 .undef] 1).bind fun e38 =>
  (gev (some (x37, false)) .bnot [e38.getD 0 .undef]).bind fun x39 =>
  (gev none .pick [x37, .bool true, x39]).bind fun x40 =>
  (gev (some (x40, false)) .id [e20.getD 0 .undef]).bind fun x41 =>
  (gev (some (x40, false)) .id [e22.getD 0 .undef]).bind fun x42 =>
  (gev (some (x40, false)) (.icm .neq) [x41, x42]).bind fun x43 =>
  (gev none .pick [x40, .bool true, x43]).bind fun x44 =>
  (gev (some (x44, false)) .len [e16.getD 2 .undef]).bind fun x45 =>
  (gev (some (x44, false)) .id [e15.getD 0 .undef]).bind fun x46 =>
  (gev (some (x44, false)) (.icm .gtr) [x45, x46]).bind fun x47 =>
  (gev none .pick [x44, .bool true, x47]).bind fun x48 =>
  (gev (some (x48, false)) .len [e16.getD 2 .undef]).bind fun x49 =>
  (gev (some (x48, false)) .id [e15.getD 0 .undef]).bind fun x50 =>
  (gev (some (x48, false)) (.icm .lss) [x49, x50]).bind fun x51 =>
  (gev (some (x48, false)) .id [x51]).bind fun x52 =>
  (gev (some (x52, true)) .id [e24.getD 2 .undef]).bind fun x53 =>
  (gev (some (x52, true)) (.icm .neq) [x53, .int 0]).bind fun x54 =>
  (gev (some (x48, false)) .pick [x52, x54, .bool false]).bind fun x55 =>
  (gev none .pick [x48, .bool true, x55]).bind fun x56 =>
  (gev (some (x56, false)) .id [e24.getD 2 .undef]).bind fun x57 =>
  (gev (some (x56, false)) (.icm .eql) [x57, .int 0]).bind fun x58 =>
  (gev (some (x56, false)) .id [x58]).bind fun x59 =>
  (gcall G (some (x59, true)) 563 [e24.getD 0 .undef, e24.getD 1 .undef, e16.getD 0 .undef, e16.getD 1 .undef] 1).bind fun e60 =>
  (gev (some (x59, true)) .bnot [e60.getD 0 .undef]).bind fun x61 =>
  (gev (some (x56, false)) .pick [x59, x61, .bool false]).bind fun x62 =>
  (gev none .pick [x56, .bool true, x62]).bind fun x63 =>
  tif x63 (
   some (0, [.bool false])) (
   tjoin 6 (
    iter (tbody 3 (S562L0 G x10 x14 e16)) fuel [e6.getD 0 .undef, e6.getD 1 .undef, .int 0]) fun e64 =>
   (gcall G none 563 [e64.getD 0 .undef, e64.getD 1 .undef, e16.getD 0 .undef, e16.getD 1 .undef] 1).bind fun e70 =>
   (gev none .bnot [e70.getD 0 .undef]).bind fun x71 =>
   tif x71 (
    some (0, [.bool false])) (
    (gcall G none 434 [e16.getD 0 .undef, e16.getD 1 .undef] 3).bind fun e72 =>
    (gcall G none 435 [e16.getD 0 .undef, e16.getD 1 .undef] 3).bind fun e75 =>
    (gev (some ((e72.getD 2 .undef), true)) .id [e75.getD 2 .undef]).bind fun x78 =>
    (gev none .pick [e72.getD 2 .undef, x78, .bool false]).bind fun x79 =>
    (gev (some (x79, true)) .len [e72.getD 0 .undef]).bind fun x80 =>
    (gev (some (x79, true)) (.icm .eql) [x80, .int 2]).bind fun x81 =>
    (gev none .pick [x79, x81, .bool false]).bind fun x82 =>
    (gev (some (x82, true)) .len [e75.getD 0 .undef]).bind fun x83 =>
    (gev (some (x82, true)) (.icm .eql) [x83, .int 2]).bind fun x84 =>
    (gev none .pick [x82, x84, .bool false]).bind fun x85 =>
    (gev (some (x85, true)) .id [e72.getD 1 .undef]).bind fun x86 =>
    (gev (some (x85, true)) .id [e75.getD 1 .undef]).bind fun x87 =>
    (gev (some (x85, true)) (.fcm .geq .f32) [x86, x87]).bind fun x88 =>
    (gev none .pick [x85, x88, .bool false]).bind fun x89 =>
    (gev (some (x89, true)) .id [e24.getD 2 .undef]).bind fun x90 =>
    (gev (some (x89, true)) (.icm .eql) [x90, .int 1]).bind fun x91 =>
    (gev (some (x89, true)) .id [e72.getD 1 .undef]).bind fun x92 =>
    (gev (some (x89, true)) .id [x14]).bind fun x93 =>
    (gev (some (x89, true)) (.fcm .gtr .f32) [x92, x93]).bind fun x94 =>
    (gev (some (x89, true)) .id [x94]).bind fun x95 =>
    (gev (some (x95, true)) .len [e16.getD 0 .undef]).bind fun x96 =>
    (gev (some (x95, true)) (.icm .lss) [x96, .int 64]).bind fun x97 =>
    (gev (some (x89, true)) .pick [x95, x97, .bool false]).bind fun x98 =>
    (gev (some (x89, true)) .id [x98]).bind fun x99 =>
    (gev (some (x99, true)) .len [e16.getD 1 .undef]).bind fun x100 =>
    (gev (some (x99, true)) (.icm .lss) [x100, .int 127]).bind fun x101 =>
    (gev (some (x89, true)) .pick [x99, x101, .bool false]).bind fun x102 =>
    (gev (some (x89, true)) .beq [x91, x102]).bind fun x103 =>
    (gev none .pick [x89, x103, .bool false]).bind fun x104 =>
    some (0, [x104]))))
theorem eq562 {G fuel} (x0 x1) : run G fuel T562 [x0, x1] = S562 G fuel x0 x1 := by rw [run_eq]; kernel_rfl
def quP (n : Int) : Nat := fdiv .f32 (i2f .f32 n) 1082130432
theorem qu_fin : ∀ n : Fin 16, finP (quP (n.1 : Int)) = true := by decide +kernel
theorem p_i2f {x : Int} : gev none (.i2f .f32) [.int x] = some (.flt (i2f .f32 x)) := rfl
instance sepDec (s t : List Int) : Decidable (sepT s t) := inferInstanceAs (Decidable (¬ _))
theorem form_sep : ∀ k : Fin 4, (formT k.1).Pairwise sepT ∧ (formV k.1).length ≤ 14 ∧ (formT k.1).length ≤ 18 ∧ 1 ≤ (formT k.1).length := by decide +kernel
theorem form_tw (k : Fin 4) : twinB (formT k.1) = false ∧ (formV k.1).length ≤ 14 ∧ (formT k.1).length ≤ 18 ∧ 1 ≤ (formT k.1).length := ⟨twinB_iff.2 (form_sep k).1, (form_sep k).2⟩
theorem inv0 {l : List Int} (hl : bytes l) {k : Nat} (hk : k < 4) : Inv (mvA l (formV k)) (formT k) (eulP (mvA l (formV k)).length (formT k)) 6 := by
 have hlen : (mvA l (formV k)).length = (formV k).length := mvN_len l (formV k) _
 have hok := form_ok k
 rw [← hlen] at hok
 simp only [formOk, Bool.and_eq_true, decide_eq_true_eq] at hok
 obtain ⟨t1, t2, t3, t4⟩ := form_tw ⟨k, hk⟩
 refine ⟨hok.1.1, hok.1.2, t1, rfl, by rw [hlen]; simp only at t2; omega, by simp only at t3; omega, t4, fun v hv => ?_⟩
 obtain ⟨i, hi, rfl⟩ := List.getElem_of_mem hv
 have := mv_c hl k (i : Int)
 unfold atV at this
 rw [Int.toNat_natCast, List.getD_eq_getElem?_getD, List.getElem?_eq_getElem hi] at this
 exact cB_mono this (by decide)
theorem il_at {l : List Int} {i : Nat} {x : Int} (h : i < l.length) (e : l.getD i 0 = x) : gev none .idx [il l, .int i] = some (.int x) := by rw [p_ii h, e]
theorem act_at {f : Nat → Int} {i j : Nat} (h : i < j) : ((List.range j).map f).getD i 0 = f i := by
 rw [List.getD_eq_getElem?_getD, List.getElem?_map, List.getElem?_range h]
 rfl
theorem ok_I {vs : List V3} {ts : List (List Int)} {e : Int} {r x y : Nat} (h : Inv vs ts e r) (hx : finP x = true) (hy : finP y = true) : okM vs ts x y = true := by
 unfold okM goodM
 rw [h.v, h.s, hx, hy]
 rfl
theorem call500 {G : Told} (g500 : G 500 = F500) {vs : List V3} {ts : List (List Int)} {e : Int} {r x y : Nat} (h : Inv vs ts e r) (hx : finP x = true) (hy : finP y = true) :
  gcall G none 500 [vl vs, tl ts, .flt x, .flt y] 4 = some [vl (mendM vs ts x y).1, tl (mendM vs ts x y).2.1, .int (mendM vs ts x y).2.2, .bool true] :=
 gcall_on g500 rfl (by rw [F500_m (szM_good h.v), ok_I h hx hy, if_pos rfl]) rfl
theorem gtr_f {x y : Int} (h : ¬ x > y) : gev none (.icm .gtr) [.int x, .int y] = some (.bool false) := by rw [p_gtr, decide_eq_false h]
theorem gi_t {b : Bool} {d : D} : gev (some (.bool b, true)) .id [d] = some (if b = true then d else .undef) := by cases b <;> rfl
theorem gn_t {b : Bool} {a : Int} : gev (some (.bool b, true)) (.icm .neq) [if b = true then .int a else .undef, .int 0] = some (if b = true then .bool (a != 0) else .undef) := by cases b <;> rfl
theorem gb_t {b c : Bool} : gev (some (.bool b, true)) .bnot [[if b = true then .bool c else .undef].getD 0 .undef] = some (if b = true then .bool (!c) else .undef) := by cases b <;> rfl
theorem gp_t {b c : Bool} {d : D} (h : (if b = true then d else .bool false) = .bool c) : gev (some (.bool false, false)) .pick [.bool b, (if b = true then d else .undef), .bool false] = some (.bool c) := by
 rw [← h]
 cases b <;> rfl
theorem gp_u {b c : Bool} {d : D} (h : (if b = true then d else .bool false) = .bool c) : gev (some (.bool true, true)) .pick [.bool b, (if b = true then d else .undef), .bool false] = some (.bool c) := by
 rw [← h]
 cases b <;> rfl
theorem gl_t {b : Bool} {d e : D} (h : gev none .len [d] = some e) : gev (some (.bool b, true)) .len [d] = some (if b = true then e else .undef) := by
 cases b
 ·rfl
 ·exact h
theorem gs_t {b : Bool} {x y : Int} (h : x < y) : gev (some (.bool b, true)) (.icm .lss) [if b = true then .int x else .undef, .int y] = some (if b = true then .bool true else .undef) := by
 cases b
 ·rfl
 ·exact lss_t h
attribute [local irreducible] tif tjoin IntKind.wrap il tl vl F220 F221 F543 F544 F500 F504 F445 F403 F563 F434 F435 formV formT mvA eulP validP sheetP twinB mendM itM acM mendR fge fgt quP edgL

theorem loop562 {G : Told} (g500 : G 500 = F500) {x y : Nat} (hx : finP x = true) (hy : finP y = true) {s : List V3 × List (List Int)} {e : Int} {j : Nat} (hj : j ≤ 5) (h : Inv s.1 s.2 e 6) (ha : ∀ i, i < j → acM x y s i ≠ 0) {vs ts : D} :
  ∃ tl2 : List D, tl2.length = 4 ∧ iter (tbody 3 (S562L0 G (.flt x) (.flt y) [vs, ts, il ((List.range j).map (acM x y s)), .bool true])) (j + 1) [vl s.1, tl s.2, .int 0] = some (0, vl (itM x y s j).1 :: tl (itM x y s j).2 :: tl2) := by
 have hlen : ((List.range j).map (acM x y s)).length = j := by simp
 have hI : ∀ i, i ≤ j → Inv (itM x y s i).1 (itM x y s i).2 e (6 - i) := fun i hi => itM_inv (by rw [show i + (6 - i) = 6 by omega]; exact h) (by omega)
 have key : ∀ n i, i + n = j → ∃ tl2 : List D, tl2.length = 4 ∧ iter (tbody 3 (S562L0 G (.flt x) (.flt y) [vs, ts, il ((List.range j).map (acM x y s)), .bool true])) (n + 1) [vl (itM x y s i).1, tl (itM x y s i).2, .int (i : Int)] = some (0, vl (itM x y s j).1 :: tl (itM x y s j).2 :: tl2) := by
  intro n
  induction n with
  | zero =>
   intro i hi;rw [show i = j by omega]
   refine ⟨[.int (j : Int), .int (j : Int), .int (j : Int), .bool false], rfl, iter_end (l := 0) (ds' := vl (itM x y s j).1 :: tl (itM x y s j).2 :: [.int (j : Int), .int (j : Int), .int (j : Int), .bool false]) (tb rfl ?_) rfl⟩;unfold S562L0;refine st_some len_il ?_;rw [hlen];refine st_some (lss_f (by omega)) ?_
   exact st_iff rfl
  | succ n ih =>
   intro i hi;obtain ⟨tl2, h2, hit⟩ := ih (i + 1) (by omega)
   refine ⟨tl2, h2, iter_go (tb rfl ?_) hit⟩;have hc := call500 g500 (hI i (by omega)) hx hy
   have hac : acM x y s i = (mendM (itM x y s i).1 (itM x y s i).2 x y).2.2 := by with_unfolding_all rfl
   have hst : itM x y s (i + 1) = ((mendM (itM x y s i).1 (itM x y s i).2 x y).1, (mendM (itM x y s i).1 (itM x y s i).2 x y).2.1) := by with_unfolding_all rfl
   have hat : gev none .idx [il ((List.range j).map (acM x y s)), .int (i : Int)] = some (.int (acM x y s i)) := il_at (by rw [hlen]; omega) (act_at (by omega))
   have hne := ha i (by omega)
   rw [← hac] at hc;rw [hst];unfold S562L0;refine st_some len_il ?_;rw [hlen];refine st_some (lss_t (by omega)) ?_
   refine st_ift ?_;refine st_some hc ?_;refine st_some p_bnot ?_;refine st_some (g_ff.trans p_id) ?_;refine st_some (g_ff.trans p_id) ?_;refine st_some (g_ff.trans hat) ?_;refine st_some (g_ff.trans hat) ?_;refine st_some (g_ff.trans neq_self) ?_;refine st_some p_pf ?_;refine st_some (g_ff.trans p_id) ?_;refine st_some (g_ff.trans (eql_no hne)) ?_;refine st_some p_pf ?_;refine st_iff ?_;exact st_some (add1n (by omega)) rfl
 have := key j 0 (by omega)
 rw [show itM x y s 0 = s by with_unfolding_all rfl] at this
 exact this
theorem finV_I {vs : List V3} {ts : List (List Int)} {e : Int} {r : Nat} (h : Inv vs ts e r) : ∀ v ∈ vs, finV v := fun v hv => by
 obtain ⟨h1, h2, h3⟩ := h.c7 v hv
 have : (1140850688 : Nat) < inf .f32 := by decide
 exact ⟨by omega, by omega, by omega⟩
theorem bstP_I {num : E2 → Option Nat} {bet : Nat → Nat → Bool} {es : List E2} {j v : Nat} (h : bstN num bet es es.length = some (j, v)) : ∃ p q, bstP num bet es = [il [p, q], .flt v, .bool true] := by
 obtain ⟨p, q, e⟩ : ∃ p q, es.getD j (0, 0) = (p, q) := ⟨_, _, rfl⟩
 refine ⟨p, q, ?_⟩
 unfold bstP
 rw [h]
 exact bstR_some e
theorem end562 {G : Told} (g434 : G 434 = F434) (g435 : G 435 = F435) {vs : List V3} {ts : List (List Int)} {e : Int} {x y : Nat} (h : Inv vs ts e 1) :
  ∃ p q p' q' v w, gcall G none 434 [vl vs, tl ts] 3 = some [il [p, q], .flt v, .bool true] ∧ gcall G none 435 [vl vs, tl ts] 3 = some [il [p', q'], .flt w, .bool true] ∧ fge .f32 v w = true ∧ ((mendM vs ts x y).2.2 == 1) = fgt .f32 v y := by
 obtain ⟨j, v, i, w, h1, h2, _, _, hge⟩ := best_two h
 obtain ⟨p, q, e1⟩ := bstP_I h1
 obtain ⟨p', q', e2⟩ := bstP_I h2
 refine ⟨p, q, p', q', v, w, gcall_on g434 rfl ?_ rfl, gcall_on g435 rfl ?_ rfl, hge, mend_split (r := 0) h h1⟩
 ·rw [F434_m (szM_good h.v), h.v, if_pos rfl, e1]
 ·rw [F435_m (szM_good h.v), h.v, if_pos rfl, e2]
theorem run562 {G : Told} (g220 : G 220 = F220) (g221 : G 221 = F221) (g403 : G 403 = F403) (g434 : G 434 = F434) (g435 : G 435 = F435) (g445 : G 445 = F445) (g500 : G 500 = F500) (g504 : G 504 = F504) (g543 : G 543 = F543) (g544 : G 544 = F544) (g563 : G 563 = F563) :
  ∀ ds rs, F562 ds = some rs → ∃ fuel, run G fuel T562 ds = some (0, rs) := by
 intro ds rs h
 unfold F562 at h
 split at h
 case h_2 => cases h
 rename_i x y
 obtain ⟨l, ha, h⟩ := Option.bind_eq_some_iff.1 h
 obtain ⟨m, hb, h⟩ := Option.bind_eq_some_iff.1 h
 rw [dI_inv ha, dI_inv hb]
 split at h
 case isFalse => cases h
 rename_i hc
 simp only [Option.some.injEq] at h
 subst h
 clear ha hb
 obtain ⟨hl, hm⟩ := hc
 have hL : gcall G none 220 [il l, il m] 1 = _ := gcall_on g220 rfl F220_m rfl
 cases hlong : (decide (l.length > 48) || decide (m.length > 48))
 case true =>
  rw [hlong] at hL;refine ⟨0, ?_⟩;rw [eq562];unfold S562;refine st_some hL ?_;exact st_ift rfl
 rw [hlong] at hL
 have b0 := atP_lt (l := m) (k := 0) (n := 4) (by omega)
 have c0 : gcall G none 221 [il m, .int 0, .int 4] 1 = some [.int (atP m 0 4 : Nat)] := gcall_on g221 rfl (F221_m (k := 0) (n := 4) hm (by omega)) rfl
 have b1 := atP_lt (l := m) (k := 1) (n := 8) (by omega)
 have c1 : gcall G none 221 [il m, .int 1, .int 8] 1 = some [.int (atP m 1 8 : Nat)] := gcall_on g221 rfl (F221_m (k := 1) (n := 8) hm (by omega)) rfl
 have b2 := atP_lt (l := m) (k := 2) (n := 12) (by omega)
 have c2 : gcall G none 221 [il m, .int 2, .int 12] 1 = some [.int (atP m 2 12 : Nat)] := gcall_on g221 rfl (F221_m (k := 2) (n := 12) hm (by omega)) rfl
 have b3 := atP_lt (l := m) (k := 3) (n := 6) (by omega)
 have c3 : gcall G none 221 [il m, .int 3, .int 6] 1 = some [.int (atP m 3 6 : Nat)] := gcall_on g221 rfl (F221_m (k := 3) (n := 6) hm (by omega)) rfl
 generalize atP m 0 4 = k at b0 c0
 generalize atP m 1 8 = a at b1 c1
 generalize atP m 2 12 = b at b2 c2
 generalize atP m 3 6 = n at b3 c3
 have hF : F544 [.int (k : Int)] = some [vl (formV k), tl (formT k)] := by
  have e : F544 [.int (k : Int)] = if 0 ≤ (k : Int) ∧ (k : Int) ≤ 4 then some [vl (formV (k : Int).toNat), tl (formT (k : Int).toNat)] else none := by with_unfolding_all rfl
  rw [e, if_pos ⟨by omega, by omega⟩, Int.toNat_natCast]
 have hsz0 := szF k
 have c4 : gcall G none 543 [il l, vl (formV k), tl (formT k)] 2 = some [vl (mvA l (formV k)), tl (formT k)] := gcall_on g543 rfl (F543_m hl (show szM _ _ ≤ 1048576 by unfold szM; omega) (by omega)) rfl
 have hI := inv0 hl b0
 generalize mvA l (formV k) = vs at c4 hI
 generalize formT k = ts at c4 hI hF
 have hx : finP (quP (a : Int)) = true := qu_fin ⟨a, by omega⟩
 have hy : finP (quP ((4 + b : Nat) : Int)) = true := qu_fin ⟨4 + b, by omega⟩
 have qx : gev none (.far .quo .f32) [.flt (i2f .f32 (a : Int)), .flt 1082130432] = some (.flt (quP (a : Int))) := by with_unfolding_all rfl
 have qy : gev none (.far .quo .f32) [.flt (i2f .f32 ((4 + b : Nat) : Int)), .flt 1082130432] = some (.flt (quP ((4 + b : Nat) : Int))) := by with_unfolding_all rfl
 have q4 : gev none (.iar .add .i64) [.int 4, .int (b : Int)] = some (.int ((4 + b : Nat) : Int)) := by
  rw [p_add, wrap_id (by omega) (by omega)]
  simp
 generalize quP (a : Int) = x at hx qx
 generalize quP ((4 + b : Nat) : Int) = y at hy qy
 generalize he : eulP vs.length ts = e at hI
 obtain ⟨j, hj, hR, hne, hend⟩ := mendR_it x y n (vs, ts) []
 have hok : (okM vs ts x y && inr 65 (n : Int)) = true := by rw [ok_I hI hx hy, Bool.true_and];unfold inr;simp only [Bool.and_eq_true, decide_eq_true_eq];omega
 have c5 : gcall G none 504 [vl vs, tl ts, .flt x, .flt y, .int (n : Int)] 4 = some [vl (itM x y (vs, ts) j).1, tl (itM x y (vs, ts) j).2, il ((List.range j).map (acM x y (vs, ts))), .bool true] := gcall_on g504 rfl (by
  rw [F504_m (szM_good hI.v), hok, if_pos rfl, Int.toNat_natCast, show mendR x y n vs ts [] = _ from hR, List.nil_append]) rfl
 have c6 : gcall G none 445 [vl vs, tl ts] 2 = some [.int e, .bool true] := gcall_on g445 rfl (by rw [F445_m (szM_good hI.v), hI.v, if_pos rfl, he]) rfl
 have hJ : Inv (itM x y (vs, ts) j).1 (itM x y (vs, ts) j).2 e 1 := by
  have := itM_inv (x := x) (y := y) (s := (vs, ts)) (r := 6 - j) (i := j) (e := e) (by rw [show j + (6 - j) = 6 by omega]; exact hI) (by omega)
  exact Inv.less (k := 5 - j) (by rw [show 5 - j + 1 = 6 - j by omega]; exact this)
 obtain ⟨tl2, htl, hloop⟩ := loop562 g500 hx hy (s := (vs, ts)) (j := j) (by omega) hI hne (vs := vl (itM x y (vs, ts) j).1) (ts := tl (itM x y (vs, ts) j).2)
 have hact : acM x y (vs, ts) j = (mendM (itM x y (vs, ts) j).1 (itM x y (vs, ts) j).2 x y).2.2 := by with_unfolding_all rfl
 have hlen : ((List.range j).map (acM x y (vs, ts))).length = j := by simp
 rw [hact] at hend
 generalize (List.range j).map (acM x y (vs, ts)) = acts at *
 generalize (itM x y (vs, ts) j).1 = vs' at *
 generalize (itM x y (vs, ts) j).2 = ts' at *
 have c7 : gcall G none 445 [vl vs', tl ts'] 2 = some [.int e, .bool true] := gcall_on g445 rfl (by rw [F445_m (szM_good hJ.v), hJ.v, if_pos rfl, hJ.e]) rfl
 have c8 := call500 g500 hJ hx hy
 have c9 : gcall G none 403 [vl vs', tl ts'] 1 = some [.bool true] := gcall_on g403 rfl (by rw [F403_m (szM_good hJ.v), hJ.v, hJ.s]; rfl) rfl
 have c10 : gcall G none 563 [vl vs', tl ts', vl vs', tl ts'] 1 = some [.bool true] := gcall_on g563 rfl (F563_m (by
  have h1 := hJ.n; have h2 := hJ.m;unfold szM;rw [totL_all (tri3 hJ.v)]
  omega) (finV_I hJ)) rfl
 obtain ⟨p, q, p', q', v, w, c11, c12, hge, hsp⟩ := end562 (x := x) (y := y) g434 g435 hJ
 have hz : (mendM vs' ts' x y).2.2 = 0 → mendM vs' ts' x y = (vs', ts', 0) := mend_none
 generalize mendM vs' ts' x y = M at *
 obtain ⟨M1, M2, act⟩ := M
 simp only [Prod.mk.injEq] at hz
 refine ⟨j + 1, ?_⟩
 rw [eq562]
 unfold S562
 refine st_some hL ?_
 refine st_iff ?_
 refine st_some c0 ?_
 refine st_some (gcall_on g544 rfl hF rfl) ?_
 refine st_some c4 ?_
 refine st_some c1 ?_
 refine st_some p_i2f ?_
 refine st_some qx ?_
 refine st_some c2 ?_
 refine st_some q4 ?_
 refine st_some p_i2f ?_
 refine st_some qy ?_
 refine st_some c3 ?_
 refine st_some c5 ?_
 refine st_some c6 ?_
 refine st_some c7 ?_
 refine st_some c8 ?_
 refine st_some p_bnot ?_
 refine st_some (g_ff.trans p_id) ?_
 refine st_some (g_ff.trans p_bnot) ?_
 refine st_some p_pf ?_
 refine st_some (g_ff.trans p_id) ?_
 refine st_some (g_ff.trans p_bnot) ?_
 refine st_some p_pf ?_
 refine st_some (g_ff.trans p_id) ?_
 refine st_some (g_ff.trans p_bnot) ?_
 refine st_some p_pf ?_
 refine st_some (c_ff.trans c9) ?_
 refine st_some (g_ff.trans p_bnot) ?_
 refine st_some p_pf ?_
 refine st_some (g_ff.trans p_id) ?_
 refine st_some (g_ff.trans p_id) ?_
 refine st_some (g_ff.trans neq_self) ?_
 refine st_some p_pf ?_
 refine st_some (g_ff.trans len_il) ?_
 refine st_some (g_ff.trans p_id) ?_
 rw [hlen]
 refine st_some (g_ff.trans (gtr_f (by omega))) ?_
 refine st_some p_pf ?_
 refine st_some (g_ff.trans len_il) ?_
 refine st_some (g_ff.trans p_id) ?_
 rw [hlen]
 have s1 : gev none (.icm .lss) [.int (j : Int), .int (n : Int)] = some (.bool (decide (j < n))) := by rw [p_lss];simp
 refine st_some (g_ff.trans s1) ?_
 refine st_some (g_ff.trans p_id) ?_
 refine st_some (gi_t (d := .int act)) ?_
 refine st_some (gn_t (a := act)) ?_
 refine st_some (gp_t (d := .bool (act != 0)) (c := decide (j < n) && (act != 0)) (by cases decide (j < n) <;> rfl)) ?_
 have z1 : (decide (j < n) && (act != 0)) = false := by
  by_cases hlt : j < n
  ·rw [show (act : Int) = 0 from hend hlt]
   simp
  ·simp [hlt]
 rw [z1]
 refine st_some p_pf ?_
 refine st_some (g_ff.trans p_id) ?_
 refine st_some (g_ff.trans p_eql) ?_
 refine st_some (g_ff.trans p_id) ?_
 have s60 : gcall G (some (.bool (act == 0), true)) 563 [vl M1, tl M2, vl vs', tl ts'] 1 = some [if (act == 0) = true then .bool true else .undef] := by
  by_cases h0 : act = 0
  ·obtain ⟨e1, e2, _⟩ := hz h0
   rw [e1, e2, h0];exact c10
  ·rw [beq_eq_false_iff_ne.2 h0]
   rfl
 refine st_some s60 ?_
 refine st_some (gb_t (c := true)) ?_
 refine st_some (gp_t (d := .bool false) (c := false) (by cases (act == 0) <;> rfl)) ?_
 refine st_some p_pf ?_
 refine st_iff ?_
 refine st_join hloop (by simp [htl]) ?_
 refine st_some c10 ?_
 refine st_some p_bnot ?_
 refine st_iff ?_
 refine st_some c11 ?_
 refine st_some c12 ?_
 refine st_some (g_tt.trans p_id) ?_
 refine st_some p_pt ?_
 refine st_some (g_tt.trans len_il) ?_
 refine st_some (g_tt.trans eql_self) ?_
 refine st_some p_pt ?_
 refine st_some (g_tt.trans len_il) ?_
 refine st_some (g_tt.trans eql_self) ?_
 refine st_some p_pt ?_
 refine st_some (g_tt.trans p_id) ?_
 refine st_some (g_tt.trans p_id) ?_
 refine st_some (g_tt.trans p_fgeq) ?_
 rw [hge]
 refine st_some p_pt ?_
 refine st_some (g_tt.trans p_id) ?_
 refine st_some (g_tt.trans p_eql) ?_
 refine st_some (g_tt.trans p_id) ?_
 refine st_some (g_tt.trans p_id) ?_
 refine st_some (g_tt.trans p_fgtr) ?_
 refine st_some (g_tt.trans p_id) ?_
 simp only at hsp
 rw [← hsp]
 have n1 := hJ.n
 have n2 := hJ.m
 refine st_some (gl_t (h := len_vl)) ?_
 refine st_some (gs_t (h := show ((vs'.length : Int)) < 64 by omega)) ?_
 refine st_some (gp_u (d := .bool true) (c := (act == 1)) (by cases (act == 1) <;> rfl)) ?_
 refine st_some (g_tt.trans p_id) ?_
 refine st_some (gl_t (h := len_tl)) ?_
 refine st_some (gs_t (h := show ((ts'.length : Int)) < 127 by omega)) ?_
 refine st_some (gp_u (d := .bool true) (c := (act == 1)) (by cases (act == 1) <;> rfl)) ?_
 refine st_some (g_tt.trans p_beq) ?_
 rw [beq_self_eq_true]
 refine st_some p_pt ?_
 rfl
end Vs
