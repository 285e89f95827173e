/-
  How thick triangles are: ThicknessOf, ThinTriangles.
-/
import Derived.Test.YtaakjnkllodchaaK8
set_option maxHeartbeats 4000000
namespace Vs
open Go
def crossV (a b : V3) : V3 :=
 ⟨fsub .f32 (fmul .f32 a.y b.z) (fmul .f32 a.z b.y), fsub .f32 (fmul .f32 a.z b.x) (fmul .f32 a.x b.z), fsub .f32 (fmul .f32 a.x b.y) (fmul .f32 a.y b.x)⟩
def normT (a b c : V3) : V3 := crossV (lessV b a) (lessV c a)
def longV (v : V3) : Nat := longP v.x v.y v.z
def thickP (a b c : V3) : Nat :=
 fdiv .f32 (fmul .f32 1079882711 (longV (normT a b c))) (fadd .f32 (fadd .f32 (dotV (lessV b a) (lessV b a)) (dotV (lessV c b) (lessV c b))) (dotV (lessV a c) (lessV a c)))
def plc (vs : List V3) (p : Int) : V3 := vs.getD p.toNat ⟨0, 0, 0⟩
def corner (vs : List V3) : List Int → Option (V3 × V3 × V3)
 | [p, q, r] => if inr vs.length p && inr vs.length q && inr vs.length r then some (plc vs p, plc vs q, plc vs r) else none
 | _ => none
theorem corner_inv {vs : List V3} {t : List Int} {a b c : V3} (h : corner vs t = some (a, b, c)) : ∃ p q r, t = [p, q, r] ∧ inr vs.length p = true ∧ inr vs.length q = true ∧ inr vs.length r = true ∧ a = plc vs p ∧ b = plc vs q ∧ c = plc vs r := by
 unfold corner at h
 split at h
 ·rename_i p q r
  split at h
  ·rename_i hc
   simp only [Bool.and_eq_true] at hc;simp only [Option.some.injEq, Prod.mk.injEq] at h;exact ⟨p, q, r, rfl, hc.1.1, hc.1.2, hc.2, h.1.symm, h.2.1.symm, h.2.2.symm⟩
  ·cases h
 ·cases h
theorem corner_ok {vs : List V3} {ts : List (List Int)} {i : Nat} (h : validP vs.length ts = true) (hi : i < ts.length) : ∃ a b c, corner vs ts[i] = some (a, b, c) := by
 unfold validP at h
 simp only [Bool.and_eq_true] at h
 have ht := List.all_eq_true.1 h.2 _ (List.getElem_mem hi)
 generalize ts[i] = t at ht
 unfold triP at ht
 split at ht
 ·rename_i p q r
  simp only [Bool.and_eq_true, List.all_cons, List.all_nil, Bool.and_true] at ht;obtain ⟨_, h1, h2, h3⟩ := ht;refine ⟨plc vs p, plc vs q, plc vs r, ?_⟩;simp only [corner];rw [if_pos (by simp [h1, h2, h3])]
 ·cases ht
theorem idx_plc {vs : List V3} {p : Int} (h : inr vs.length p = true) : gev none .idx [vl vs, .int p] = some (vec (plc vs p)) := by
 unfold inr at h
 simp only [Bool.and_eq_true, decide_eq_true_eq] at h
 have e : p = (p.toNat : Int) := by omega
 have hl : p.toNat < vs.length := by omega
 have := idx_vl hl
 rw [← e] at this
 rw [this]
 unfold plc
 rw [getD_lt hl]
noncomputable def F156 : List D → Option (List D)
 | [a, b, .int i] => (dV a).bind fun vs => (dT b).bind fun ts => if szM vs ts ≤ 1048576 then some [.bool (validP vs.length ts && inr ts.length i)] else none
 | _ => none
def F158 : List D → Option (List D)
 | [.flt a, .flt b, .flt c, .flt x, .flt y, .flt z] => some [.flt (crossV ⟨a, b, c⟩ ⟨x, y, z⟩).x, .flt (crossV ⟨a, b, c⟩ ⟨x, y, z⟩).y, .flt (crossV ⟨a, b, c⟩ ⟨x, y, z⟩).z]
 | _ => none
def nds (v : V3) : List D := [.flt v.x, .flt v.y, .flt v.z]
noncomputable def F160 : List D → Option (List D)
 | [a, _, c] => (dV a).bind fun vs => (dI c).bind fun t => (corner vs t).map fun p => nds (normT p.1 p.2.1 p.2.2)
 | _ => none
noncomputable def F162 : List D → Option (List D)
 | [a, _, c] => (dV a).bind fun vs => (dI c).bind fun t => (corner vs t).map fun p => [.flt (thickP p.1 p.2.1 p.2.2)]
 | _ => none
noncomputable def F161 : List D → Option (List D)
 | [a, b, .int i] => (dV a).bind fun vs => (dT b).bind fun ts => if 0 ≤ i ∧ i < ts.length then (corner vs (ts.getD i.toNat [])).map fun p => [.flt (thickP p.1 p.2.1 p.2.2)] else none
 | _ => none
def thk (vs : List V3) (ts : List (List Int)) (i : Nat) : Nat := match corner vs (ts.getD i []) with | some p => thickP p.1 p.2.1 p.2.2 | none => 0
noncomputable def F163 : List D → Option (List D)
 | [a, b, .int i] => (dV a).bind fun vs => (dT b).bind fun ts => if szM vs ts ≤ 1048576 then some (if (validP vs.length ts && inr ts.length i) = true then [.flt (thk vs ts i.toNat), .bool true] else [.flt 0, .bool false]) else none
 | _ => none
def thinN (vs : List V3) (ts : List (List Int)) (k : Nat) : Nat → List Int
 | 0 => []
 | n + 1 => if flt .f32 (thk vs ts n) k = true then thinN vs ts k n ++ [(n : Int)] else thinN vs ts k n
theorem thinN_len (vs : List V3) (ts : List (List Int)) (k : Nat) : ∀ n, (thinN vs ts k n).length ≤ n
 | 0 => by simp [thinN]
 | n + 1 => by
  have := thinN_len vs ts k n;simp only [thinN];split
  ·simp only [List.length_append, List.length_cons, List.length_nil]
   omega
  ·omega
noncomputable def F165 : List D → Option (List D)
 | [a, b, .flt k] => (dV a).bind fun vs => (dT b).bind fun ts => if szM vs ts ≤ 1048576 then some (if validP vs.length ts = true then [il (thinN vs ts k ts.length), .bool true] else [il [], .bool false]) else none
 | _ => none
theorem F156_m {vs : List V3} {ts : List (List Int)} {i : Int} (h : szM vs ts ≤ 1048576) : F156 [vl vs, tl ts, .int i] = some [.bool (validP vs.length ts && inr ts.length i)] := by
 simp only [F156, dV_vl, dT_tl, Option.bind_some]
 rw [if_pos h]
theorem F163_m {vs : List V3} {ts : List (List Int)} {i : Int} (h : szM vs ts ≤ 1048576) : F163 [vl vs, tl ts, .int i] = some (if (validP vs.length ts && inr ts.length i) = true then [.flt (thk vs ts i.toNat), .bool true] else [.flt 0, .bool false]) := by
 simp only [F163, dV_vl, dT_tl, Option.bind_some]
 rw [if_pos h]
theorem F165_m {vs : List V3} {ts : List (List Int)} {k : Nat} (h : szM vs ts ≤ 1048576) : F165 [vl vs, tl ts, .flt k] = some (if validP vs.length ts = true then [il (thinN vs ts k ts.length), .bool true] else [il [], .bool false]) := by
 simp only [F165, dV_vl, dT_tl, Option.bind_some]
 rw [if_pos h]
theorem thk_eq {vs : List V3} {ts : List (List Int)} {i : Nat} (hi : i < ts.length) {a b c : V3} (h : corner vs ts[i] = some (a, b, c)) : thk vs ts i = thickP a b c := by
 unfold thk
 rw [getD_lt hi, h]
theorem F162_m {vs : List V3} {t : List Int} {b : D} {p q r : V3} (h : corner vs t = some (p, q, r)) : F162 [vl vs, b, il t] = some [.flt (thickP p q r)] := by simp only [F162, dV_vl, dI_il, Option.bind_some, h, Option.map_some]
theorem F160_m {vs : List V3} {t : List Int} {b : D} {p q r : V3} (h : corner vs t = some (p, q, r)) : F160 [vl vs, b, il t] = some (nds (normT p q r)) := by simp only [F160, dV_vl, dI_il, Option.bind_some, h, Option.map_some]
theorem F161_m {vs : List V3} {ts : List (List Int)} {i : Nat} {p q r : V3} (hi : i < ts.length) (h : corner vs ts[i] = some (p, q, r)) : F161 [vl vs, tl ts, .int i] = some [.flt (thickP p q r)] := by
 simp only [F161, dV_vl, dT_tl, Option.bind_some]
 rw [if_pos ⟨by omega, by omega⟩, Int.toNat_natCast, getD_lt hi, h]
 rfl
def T156 : T :=
(cc 150 [0, 1] 1 <|
oT 3 .id [2] <|
oT 3 .id [1] <|
oT 3 .len [5] <|
oT 3 (.iar .sub .i64) [6, kI 1] <|
cT 3 19 [4, kI 0, 7] 1 <|
oo .pick [3, 8, kN] <|
.out 0 [9])
def S156 (G : Told) (_fuel : Nat) (x0 x1 x2 : D) : Option (Nat × List D) :=
 (gcall G none 150 [x0, x1] 1).bind fun e3 =>
 (gev (some ((e3.getD 0 .undef), true)) .id [x2]).bind fun x4 =>
 (gev (some ((e3.getD 0 .undef), true)) .id [x1]).bind fun x5 =>
 (gev (some ((e3.getD 0 .undef), true)) .len [x5]).bind fun x6 =>
 (gev (some ((e3.getD 0 .undef), true)) (.iar .sub .i64) [x6, .int 1]).bind fun x7 =>
 (gcall G (some ((e3.getD 0 .undef), true)) 19 [x4, .int 0, x7] 1).bind fun e8 =>
 (gev none .pick [e3.getD 0 .undef, e8.getD 0 .undef, .bool false]).bind fun x9 =>
 some (0, [x9])
theorem eq156 {G fuel} (x0 x1 x2) : run G fuel T156 [x0, x1, x2] = S156 G fuel x0 x1 x2 := by rw [run_eq]; kernel_rfl
def T158 : T :=
(oo (.far .mul .f32) [1, 5] <|
oo (.far .mul .f32) [2, 4] <|
oo (.far .sub .f32) [6, 7] <|
oo (.far .mul .f32) [2, 3] <|
oo (.far .mul .f32) [0, 5] <|
oo (.far .sub .f32) [9, 10] <|
oo (.far .mul .f32) [0, 4] <|
oo (.far .mul .f32) [1, 3] <|
oo (.far .sub .f32) [12, 13] <|
.out 0 [8, 11, 14])
def S158 (_G : Told) (_fuel : Nat) (x0 x1 x2 x3 x4 x5 : D) : Option (Nat × List D) :=
 (gev none (.far .mul .f32) [x1, x5]).bind fun x6 =>
 (gev none (.far .mul .f32) [x2, x4]).bind fun x7 =>
 (gev none (.far .sub .f32) [x6, x7]).bind fun x8 =>
 (gev none (.far .mul .f32) [x2, x3]).bind fun x9 =>
 (gev none (.far .mul .f32) [x0, x5]).bind fun x10 =>
 (gev none (.far .sub .f32) [x9, x10]).bind fun x11 =>
 (gev none (.far .mul .f32) [x0, x4]).bind fun x12 =>
 (gev none (.far .mul .f32) [x1, x3]).bind fun x13 =>
 (gev none (.far .sub .f32) [x12, x13]).bind fun x14 =>
 some (0, [x8, x11, x14])
theorem eq158 {G fuel} (x0 x1 x2 x3 x4 x5) : run G fuel T158 [x0, x1, x2, x3, x4, x5] = S158 G fuel x0 x1 x2 x3 x4 x5 := by rw [run_eq]; kernel_rfl
def T160 : T :=
(oo .idx [2, kI 0] <|
oo .idx [0, 3] <|
oo (.proj 0) [4] <|
oo (.proj 1) [4] <|
oo (.proj 2) [4] <|
oo .idx [2, kI 1] <|
oo .idx [0, 8] <|
oo (.proj 0) [9] <|
oo (.proj 1) [9] <|
oo (.proj 2) [9] <|
cc 13 [10, 11, 12, 5, 6, 7] 3 <|
oo .idx [2, kI 2] <|
oo .idx [0, 16] <|
oo (.proj 0) [17] <|
oo (.proj 1) [17] <|
oo (.proj 2) [17] <|
cc 13 [18, 19, 20, 5, 6, 7] 3 <|
cc 158 [13, 14, 15, 21, 22, 23] 3 <|
.out 0 [24, 25, 26])
def S160 (G : Told) (_fuel : Nat) (x0 _x1 x2 : D) : Option (Nat × List D) :=
 (gev none .idx [x2, .int 0]).bind fun x3 =>
 (gev none .idx [x0, x3]).bind fun x4 =>
 (gev none (.proj 0) [x4]).bind fun x5 =>
 (gev none (.proj 1) [x4]).bind fun x6 =>
 (gev none (.proj 2) [x4]).bind fun x7 =>
 (gev none .idx [x2, .int 1]).bind fun x8 =>
 (gev none .idx [x0, x8]).bind fun x9 =>
 (gev none (.proj 0) [x9]).bind fun x10 =>
 (gev none (.proj 1) [x9]).bind fun x11 =>
 (gev none (.proj 2) [x9]).bind fun x12 =>
 (gcall G none 13 [x10, x11, x12, x5, x6, x7] 3).bind fun e13 =>
 (gev none .idx [x2, .int 2]).bind fun x16 =>
 (gev none .idx [x0, x16]).bind fun x17 =>
 (gev none (.proj 0) [x17]).bind fun x18 =>
 (gev none (.proj 1) [x17]).bind fun x19 =>
 (gev none (.proj 2) [x17]).bind fun x20 =>
 (gcall G none 13 [x18, x19, x20, x5, x6, x7] 3).bind fun e21 =>
 (gcall G none 158 [e13.getD 0 .undef, e13.getD 1 .undef, e13.getD 2 .undef, e21.getD 0 .undef, e21.getD 1 .undef, e21.getD 2 .undef] 3).bind fun e24 =>
 some (0, [e24.getD 0 .undef, e24.getD 1 .undef, e24.getD 2 .undef])
theorem eq160 {G fuel} (x0 x1 x2) : run G fuel T160 [x0, x1, x2] = S160 G fuel x0 x1 x2 := by rw [run_eq]; kernel_rfl
def T162 : T :=
(oo .idx [2, kI 0] <|
oo .idx [0, 3] <|
oo (.proj 0) [4] <|
oo (.proj 1) [4] <|
oo (.proj 2) [4] <|
oo .idx [2, kI 1] <|
oo .idx [0, 8] <|
oo (.proj 0) [9] <|
oo (.proj 1) [9] <|
oo (.proj 2) [9] <|
oo .idx [2, kI 2] <|
oo .idx [0, 13] <|
oo (.proj 0) [14] <|
oo (.proj 1) [14] <|
oo (.proj 2) [14] <|
cc 13 [10, 11, 12, 5, 6, 7] 3 <|
cc 13 [15, 16, 17, 10, 11, 12] 3 <|
cc 13 [5, 6, 7, 15, 16, 17] 3 <|
oo .mkagg [18, 19, 20] <|
oo .mkagg [21, 22, 23] <|
oo .mkagg [24, 25, 26] <|
oo .mklst [27, 28, 29] <|
oo .len [30] <|
.join 3
 (.loop [kF 0, kI 0]
  (oo (.icm .lss) [33, 31] <|
  .ite 34
   (oo .idx [30, 33] <|
   oo .idx [30, 33] <|
   oo (.proj 0) [36] <|
   oo (.proj 1) [36] <|
   oo (.proj 2) [36] <|
   oo (.icm .eql) [33, kI 0] <|
   .join 1
    (.ite 40
     (cc 14 [37, 38, 39, 37, 38, 39] 1 <|
     .out 0 [41])
     (cc 14 [37, 38, 39, 37, 38, 39] 1 <|
     oo (.far .add .f32) [32, 41] <|
     .out 0 [42]))
   (oo (.iar .add .i64) [33, kI 1] <|
   .out 0 [41, 42]))
   (.out 1 [32, 33, 34])))
(cc 160 [0, 1, 2] 3 <|
cc 15 [35, 36, 37] 1 <|
oo (.far .mul .f32) [kF 1079882711, 38] <|
oo (.far .quo .f32) [39, 32] <|
.out 0 [40]))
def S162L0 (G : Told) (x30 : D) (x31 : D) : List D → Option (Nat × List D) := fun e32 =>
   (gev none (.icm .lss) [e32.getD 1 .undef, x31]).bind fun x34 =>
   tif x34 (
    (gev none .idx [x30, e32.getD 1 .undef]).bind fun _x35 =>
    (gev none .idx [x30, e32.getD 1 .undef]).bind fun x36 =>
    (gev none (.proj 0) [x36]).bind fun x37 =>
    (gev none (.proj 1) [x36]).bind fun x38 =>
    (gev none (.proj 2) [x36]).bind fun x39 =>
    (gev none (.icm .eql) [e32.getD 1 .undef, .int 0]).bind fun x40 =>
    tjoin 1 (
     tif x40 (
      (gcall G none 14 [x37, x38, x39, x37, x38, x39] 1).bind fun e41 =>
      some (0, [e41.getD 0 .undef])) (
      (gcall G none 14 [x37, x38, x39, x37, x38, x39] 1).bind fun e41 =>
      (gev none (.far .add .f32) [e32.getD 0 .undef, e41.getD 0 .undef]).bind fun x42 =>
      some (0, [x42]))) fun e41 =>
    (gev none (.iar .add .i64) [e32.getD 1 .undef, .int 1]).bind fun x42 =>
    some (0, [e41.getD 0 .undef, x42])) (
    some (1, [e32.getD 0 .undef, e32.getD 1 .undef, x34]))
def S162 (G : Told) (fuel : Nat) (x0 x1 x2 : D) : Option (Nat × List D) :=
 (gev none .idx [x2, .int 0]).bind fun x3 =>
 (gev none .idx [x0, x3]).bind fun x4 =>
 (gev none (.proj 0) [x4]).bind fun x5 =>
 (gev none (.proj 1) [x4]).bind fun x6 =>
 (gev none (.proj 2) [x4]).bind fun x7 =>
 (gev none .idx [x2, .int 1]).bind fun x8 =>
 (gev none .idx [x0, x8]).bind fun x9 =>
 (gev none (.proj 0) [x9]).bind fun x10 =>
 (gev none (.proj 1) [x9]).bind fun x11 =>
 (gev none (.proj 2) [x9]).bind fun x12 =>
 (gev none .idx [x2, .int 2]).bind fun x13 =>
 (gev none .idx [x0, x13]).bind fun x14 =>
 (gev none (.proj 0) [x14]).bind fun x15 =>
 (gev none (.proj 1) [x14]).bind fun x16 =>
 (gev none (.proj 2) [x14]).bind fun x17 =>
 (gcall G none 13 [x10, x11, x12, x5, x6, x7] 3).bind fun e18 =>
 (gcall G none 13 [x15, x16, x17, x10, x11, x12] 3).bind fun e21 =>
 (gcall G none 13 [x5, x6, x7, x15, x16, x17] 3).bind fun e24 =>
 (gev none .mkagg [e18.getD 0 .undef, e18.getD 1 .undef, e18.getD 2 .undef]).bind fun x27 =>
 (gev none .mkagg [e21.getD 0 .undef, e21.getD 1 .undef, e21.getD 2 .undef]).bind fun x28 =>
 (gev none .mkagg [e24.getD 0 .undef, e24.getD 1 .undef, e24.getD 2 .undef]).bind fun x29 =>
 (gev none .mklst [x27, x28, x29]).bind fun x30 =>
 (gev none .len [x30]).bind fun x31 =>
 tjoin 3 (
  iter (tbody 2 (S162L0 G x30 x31)) fuel [.flt 0, .int 0]) fun e32 =>
 (gcall G none 160 [x0, x1, x2] 3).bind fun e35 =>
 (gcall G none 15 [e35.getD 0 .undef, e35.getD 1 .undef, e35.getD 2 .undef] 1).bind fun e38 =>
 (gev none (.far .mul .f32) [.flt 1079882711, e38.getD 0 .undef]).bind fun x39 =>
 (gev none (.far .quo .f32) [x39, e32.getD 0 .undef]).bind fun x40 =>
 some (0, [x40])
theorem eq162 {G fuel} (x0 x1 x2) : run G fuel T162 [x0, x1, x2] = S162 G fuel x0 x1 x2 := by rw [run_eq]; kernel_rfl
def T163 : T :=
(cc 156 [0, 1, 2] 1 <|
oo .bnot [3] <|
.ite 4
 (.out 0 [kF 0, kN])
 (oo .idx [1, 2] <|
 cc 162 [0, 1, 5] 1 <|
 .out 0 [6, kT]))
def S163 (G : Told) (_fuel : Nat) (x0 x1 x2 : D) : Option (Nat × List D) :=
 (gcall G none 156 [x0, x1, x2] 1).bind fun e3 =>
 (gev none .bnot [e3.getD 0 .undef]).bind fun x4 =>
 tif x4 (
  some (0, [.flt 0, .bool false])) (
  (gev none .idx [x1, x2]).bind fun x5 =>
  (gcall G none 162 [x0, x1, x5] 1).bind fun e6 =>
  some (0, [e6.getD 0 .undef, .bool true]))
theorem eq163 {G fuel} (x0 x1 x2) : run G fuel T163 [x0, x1, x2] = S163 G fuel x0 x1 x2 := by rw [run_eq]; kernel_rfl
def T165 : T :=
(cc 150 [0, 1] 1 <|
oo .bnot [3] <|
.ite 4
 (.out 0 [kL, kN])
 (oo .mklst [] <|
 oo .len [1] <|
 .join 3
  (.loop [5, kI 0]
   (oo (.icm .lss) [8, 6] <|
   .ite 9
    (oo .idx [1, 8] <|
    cc 162 [0, 1, 10] 1 <|
    oo (.fcm .lss .f32) [11, 2] <|
    .join 1
     (.ite 12
      (oo .mklst [8] <|
      oo .app [7, 13] <|
      .out 0 [14])
      (.out 0 [7]))
    (oo (.iar .add .i64) [8, kI 1] <|
    .out 0 [13, 14]))
    (.out 1 [7, 8, 9])))
 (.out 0 [7, kT])))
def S165L0 (G : Told) (x0 : D) (x1 : D) (x2 : D) (x6 : D) : List D → Option (Nat × List D) := fun e7 =>
    (gev none (.icm .lss) [e7.getD 1 .undef, x6]).bind fun x9 =>
    tif x9 (
     (gev none .idx [x1, e7.getD 1 .undef]).bind fun x10 =>
     (gcall G none 162 [x0, x1, x10] 1).bind fun e11 =>
     (gev none (.fcm .lss .f32) [e11.getD 0 .undef, x2]).bind fun x12 =>
     tjoin 1 (
      tif x12 (
       (gev none .mklst [e7.getD 1 .undef]).bind fun x13 =>
       (gev none .app [e7.getD 0 .undef, x13]).bind fun x14 =>
       some (0, [x14])) (
       some (0, [e7.getD 0 .undef]))) fun e13 =>
     (gev none (.iar .add .i64) [e7.getD 1 .undef, .int 1]).bind fun x14 =>
     some (0, [e13.getD 0 .undef, x14])) (
     some (1, [e7.getD 0 .undef, e7.getD 1 .undef, x9]))
def S165 (G : Told) (fuel : Nat) (x0 x1 x2 : D) : Option (Nat × List D) :=
 (gcall G none 150 [x0, x1] 1).bind fun e3 =>
 (gev none .bnot [e3.getD 0 .undef]).bind fun x4 =>
 tif x4 (
  some (0, [(.lst []), (.bool false)])) (
  (gev none .mklst []).bind fun x5 =>
  (gev none .len [x1]).bind fun x6 =>
  tjoin 3 (
   iter (tbody 2 (S165L0 G x0 x1 x2 x6)) fuel [x5, .int 0]) fun e7 =>
  some (0, [e7.getD 0 .undef, .bool true]))
theorem eq165 {G fuel} (x0 x1 x2) : run G fuel T165 [x0, x1, x2] = S165 G fuel x0 x1 x2 := by rw [run_eq]; kernel_rfl
attribute [local irreducible] tif tjoin IntKind.wrap feq fadd fmul fsub fdiv fgt i2f wide vl il tl totL szM inr triP validP innerP longP rootP flt thk

theorem run156 {G : Told} (g19 : G 19 = F19) (g150 : G 150 = F150) : Runs G F156 T156 := by
 intro ds rs h
 unfold F156 at h
 split at h
 case h_2 => cases h
 rename_i a b k
 obtain ⟨vs, ha, h⟩ := Option.bind_eq_some_iff.1 h
 obtain ⟨ts, hb, h⟩ := Option.bind_eq_some_iff.1 h
 rw [dV_inv ha, dT_inv hb]
 split at h
 case isFalse => cases h
 rename_i hc
 simp only [Option.some.injEq] at h
 subst h
 refine ⟨0, ?_⟩
 rw [eq156]
 unfold S156
 have hz : szM vs ts = vs.length + ts.length + totL ts := by unfold szM; rfl
 have hv := F150_m hc
 have hm := len_tl (l := ts)
 have hs := sub1 (n := ts.length) (by omega) (by omega)
 have hf := F19_in k ts.length
 cases hval : validP vs.length ts
 ·rw [hval] at hv
  rw [Bool.false_and]
  repeat' first
   | with_reducible refine st_ift ?_
   | with_reducible refine st_iff ?_
   | ((with_reducible apply st_call); exact g150; exact rfl; exact hv; exact rfl)
   | ((with_reducible apply st_callt); assumption; exact rfl; exact rfl; assumption)
   | ((with_reducible apply st_callf); assumption; exact rfl; exact rfl; assumption)
   | ((with_reducible apply st_call); assumption; exact rfl; exact rfl; exact rfl)
   | ((with_reducible apply st_wide); exact rfl; exact rfl)
   | ((with_reducible apply st_skip); exact rfl)
   | ((with_reducible apply st_t); exact rfl; exact rfl)
   | ((with_reducible apply st_f); exact rfl; exact rfl)
   | ((with_reducible apply st_t); exact rfl; assumption)
   | ((with_reducible apply st_f); exact rfl; assumption)
   | ((with_reducible apply st_some); exact rfl)
   | exact rfl
 ·rw [hval] at hv
  rw [Bool.true_and];generalize inr ts.length k = w at hf
  repeat' first
   | with_reducible refine st_ift ?_
   | with_reducible refine st_iff ?_
   | ((with_reducible apply st_call); exact g150; exact rfl; exact hv; exact rfl)
   | ((with_reducible apply st_call); exact g19; exact rfl; exact hf; exact rfl)
   | ((with_reducible apply st_some); exact hm)
   | ((with_reducible apply st_some); exact hs)
   | ((with_reducible apply st_callt); assumption; exact rfl; exact rfl; assumption)
   | ((with_reducible apply st_callf); assumption; exact rfl; exact rfl; assumption)
   | ((with_reducible apply st_call); assumption; exact rfl; exact rfl; exact rfl)
   | ((with_reducible apply st_wide); exact rfl; exact rfl)
   | ((with_reducible apply st_skip); exact rfl)
   | ((with_reducible apply st_t); exact rfl; exact rfl)
   | ((with_reducible apply st_f); exact rfl; exact rfl)
   | ((with_reducible apply st_t); exact rfl; assumption)
   | ((with_reducible apply st_f); exact rfl; assumption)
   | ((with_reducible apply st_some); exact rfl)
   | exact rfl
theorem run158 {G : Told} : Runs G F158 T158 := by
 intro ds rs h
 unfold F158 at h
 split at h <;> simp only [Option.some.injEq, reduceCtorEq] at h
 subst h
 refine ⟨0, ?_⟩
 rw [eq158]
 unfold S158
 repeat' first
  | with_reducible refine st_ift ?_
  | with_reducible refine st_iff ?_
  | ((with_reducible apply st_callt); assumption; exact rfl; exact rfl; assumption)
  | ((with_reducible apply st_callf); assumption; exact rfl; exact rfl; assumption)
  | ((with_reducible apply st_call); assumption; exact rfl; exact rfl; exact rfl)
  | ((with_reducible apply st_wide); exact rfl; exact rfl)
  | ((with_reducible apply st_skip); exact rfl)
  | ((with_reducible apply st_t); exact rfl; exact rfl)
  | ((with_reducible apply st_f); exact rfl; exact rfl)
  | ((with_reducible apply st_t); exact rfl; assumption)
  | ((with_reducible apply st_f); exact rfl; assumption)
  | ((with_reducible apply st_some); exact rfl)
  | exact rfl
theorem run160 {G : Told} (g13 : G 13 = F13) (g158 : G 158 = F158) : Runs G F160 T160 := by
 intro ds rs h
 unfold F160 at h
 split at h
 case h_2 => cases h
 rename_i a b c
 obtain ⟨vs, ha, h⟩ := Option.bind_eq_some_iff.1 h
 obtain ⟨t, hb, h⟩ := Option.bind_eq_some_iff.1 h
 rw [dV_inv ha, dI_inv hb]
 obtain ⟨⟨a', b', c'⟩, hcn, h⟩ := Option.map_eq_some_iff.1 h
 obtain ⟨p, q, r, rfl, hp, hq, hr, rfl, rfl, rfl⟩ := corner_inv hcn
 subst h
 refine ⟨0, ?_⟩
 rw [eq160]
 unfold S160
 clear hcn
 have x0 : gev none .idx [il [p, q, r], .int 0] = some (.int p) := idx_il (l := [p, q, r]) (i := 0) (by simp)
 have x1 : gev none .idx [il [p, q, r], .int 1] = some (.int q) := idx_il (l := [p, q, r]) (i := 1) (by simp)
 have x2 : gev none .idx [il [p, q, r], .int 2] = some (.int r) := idx_il (l := [p, q, r]) (i := 2) (by simp)
 have y0 := idx_plc hp
 have y1 := idx_plc hq
 have y2 := idx_plc hr
 generalize plc vs p = a at *
 generalize plc vs q = b at *
 generalize plc vs r = c at *
 have l1 : F13 [.flt b.x, .flt b.y, .flt b.z, .flt a.x, .flt a.y, .flt a.z] = some [.flt (lessV b a).x, .flt (lessV b a).y, .flt (lessV b a).z] := rfl
 have l2 : F13 [.flt c.x, .flt c.y, .flt c.z, .flt a.x, .flt a.y, .flt a.z] = some [.flt (lessV c a).x, .flt (lessV c a).y, .flt (lessV c a).z] := rfl
 have lx : F158 [.flt (lessV b a).x, .flt (lessV b a).y, .flt (lessV b a).z, .flt (lessV c a).x, .flt (lessV c a).y, .flt (lessV c a).z] = some [.flt (normT a b c).x, .flt (normT a b c).y, .flt (normT a b c).z] := rfl
 unfold nds
 generalize normT a b c = n at *
 generalize lessV b a = u at *
 generalize lessV c a = w at *
 repeat' first
  | with_reducible refine st_ift ?_
  | with_reducible refine st_iff ?_
  | ((with_reducible apply st_call); exact g13; exact rfl; exact l1; exact rfl)
  | ((with_reducible apply st_call); exact g13; exact rfl; exact l2; exact rfl)
  | ((with_reducible apply st_call); exact g158; exact rfl; exact lx; exact rfl)
  | ((with_reducible apply st_some); exact x0)
  | ((with_reducible apply st_some); exact x1)
  | ((with_reducible apply st_some); exact x2)
  | ((with_reducible apply st_some); exact y0)
  | ((with_reducible apply st_some); exact y1)
  | ((with_reducible apply st_some); exact y2)
  | ((with_reducible apply st_callt); assumption; exact rfl; exact rfl; assumption)
  | ((with_reducible apply st_callf); assumption; exact rfl; exact rfl; assumption)
  | ((with_reducible apply st_call); assumption; exact rfl; exact rfl; exact rfl)
  | ((with_reducible apply st_wide); exact rfl; exact rfl)
  | ((with_reducible apply st_skip); exact rfl)
  | ((with_reducible apply st_t); exact rfl; exact rfl)
  | ((with_reducible apply st_f); exact rfl; exact rfl)
  | ((with_reducible apply st_t); exact rfl; assumption)
  | ((with_reducible apply st_f); exact rfl; assumption)
  | ((with_reducible apply st_some); exact rfl)
  | exact rfl
theorem run162 {G : Told} (g13 : G 13 = F13) (g14 : G 14 = F14) (g15 : G 15 = F15) (g160 : G 160 = F160) : Runs G F162 T162 := by
 intro ds rs h
 unfold F162 at h
 split at h
 case h_2 => cases h
 rename_i a b c
 obtain ⟨vs, ha, h⟩ := Option.bind_eq_some_iff.1 h
 obtain ⟨t, hb, h⟩ := Option.bind_eq_some_iff.1 h
 rw [dV_inv ha, dI_inv hb]
 obtain ⟨⟨a', b', c'⟩, hcn, h⟩ := Option.map_eq_some_iff.1 h
 obtain ⟨p, q, r, rfl, hp, hq, hr, rfl, rfl, rfl⟩ := corner_inv hcn
 subst h
 refine ⟨4, ?_⟩
 rw [eq162]
 unfold S162
 have fn := F160_m (b := b) hcn
 clear hcn
 generalize b = z at *
 have x0 : gev none .idx [il [p, q, r], .int 0] = some (.int p) := idx_il (l := [p, q, r]) (i := 0) (by simp)
 have x1 : gev none .idx [il [p, q, r], .int 1] = some (.int q) := idx_il (l := [p, q, r]) (i := 1) (by simp)
 have x2 : gev none .idx [il [p, q, r], .int 2] = some (.int r) := idx_il (l := [p, q, r]) (i := 2) (by simp)
 have y0 := idx_plc hp
 have y1 := idx_plc hq
 have y2 := idx_plc hr
 generalize plc vs p = a at *
 generalize plc vs q = b at *
 generalize plc vs r = c at *
 have l1 : F13 [.flt b.x, .flt b.y, .flt b.z, .flt a.x, .flt a.y, .flt a.z] = some [.flt (lessV b a).x, .flt (lessV b a).y, .flt (lessV b a).z] := rfl
 have l2 : F13 [.flt c.x, .flt c.y, .flt c.z, .flt b.x, .flt b.y, .flt b.z] = some [.flt (lessV c b).x, .flt (lessV c b).y, .flt (lessV c b).z] := rfl
 have l3 : F13 [.flt a.x, .flt a.y, .flt a.z, .flt c.x, .flt c.y, .flt c.z] = some [.flt (lessV a c).x, .flt (lessV a c).y, .flt (lessV a c).z] := rfl
 have i1 : F14 [.flt (lessV b a).x, .flt (lessV b a).y, .flt (lessV b a).z, .flt (lessV b a).x, .flt (lessV b a).y, .flt (lessV b a).z] = some [.flt (dotV (lessV b a) (lessV b a))] := rfl
 have i2 : F14 [.flt (lessV c b).x, .flt (lessV c b).y, .flt (lessV c b).z, .flt (lessV c b).x, .flt (lessV c b).y, .flt (lessV c b).z] = some [.flt (dotV (lessV c b) (lessV c b))] := rfl
 have i3 : F14 [.flt (lessV a c).x, .flt (lessV a c).y, .flt (lessV a c).z, .flt (lessV a c).x, .flt (lessV a c).y, .flt (lessV a c).z] = some [.flt (dotV (lessV a c) (lessV a c))] := rfl
 have ln : F15 [.flt (normT a b c).x, .flt (normT a b c).y, .flt (normT a b c).z] = some [.flt (longV (normT a b c))] := rfl
 unfold thickP
 unfold nds at fn
 generalize longV (normT a b c) = lg at *
 generalize normT a b c = n at *
 generalize dotV (lessV b a) (lessV b a) = e1 at *
 generalize dotV (lessV c b) (lessV c b) = e2 at *
 generalize dotV (lessV a c) (lessV a c) = e3 at *
 generalize lessV b a = u1 at *
 generalize lessV c b = u2 at *
 generalize lessV a c = u3 at *
 have hv3 : (.lst [.agg [.flt u1.x, .flt u1.y, .flt u1.z], .agg [.flt u2.x, .flt u2.y, .flt u2.z], .agg [.flt u3.x, .flt u3.y, .flt u3.z]] : D) = vl [u1, u2, u3] := by unfold vl; rfl
 have hml : gev none .mklst [.agg [.flt u1.x, .flt u1.y, .flt u1.z], .agg [.flt u2.x, .flt u2.y, .flt u2.z], .agg [.flt u3.x, .flt u3.y, .flt u3.z]] = some (vl [u1, u2, u3]) := by rw [← hv3]; rfl
 have hn3 : gev none .len [vl [u1, u2, u3]] = some (.int 3) := len_vl (l := [u1, u2, u3])
 have w0 : gev none .idx [vl [u1, u2, u3], .int 0] = some (vec u1) := idx_vl (l := [u1, u2, u3]) (i := 0) (by simp)
 have w1 : gev none .idx [vl [u1, u2, u3], .int 1] = some (vec u2) := idx_vl (l := [u1, u2, u3]) (i := 1) (by simp)
 have w2 : gev none .idx [vl [u1, u2, u3], .int 2] = some (vec u3) := idx_vl (l := [u1, u2, u3]) (i := 2) (by simp)
 have a0 := add1n (i := 0) (by omega)
 have a1 := add1n (i := 1) (by omega)
 have a2 := add1n (i := 2) (by omega)
 have hloop : iter (tbody 2 (S162L0 G (vl [u1, u2, u3]) (.int 3))) 4 [.flt 0, .int 0] = some (0, [.flt (fadd .f32 (fadd .f32 e1 e2) e3), .int 3, .bool false]) := by
  refine iter_go (ds' := [.flt e1, .int 1]) (tb rfl ?_) ?_
  ·unfold S162L0
   repeat' first
    | with_reducible refine st_ift ?_
    | with_reducible refine st_iff ?_
    | ((with_reducible apply st_some); exact w0)
    | ((with_reducible apply st_some); exact w1)
    | ((with_reducible apply st_some); exact w2)
    | ((with_reducible apply st_some); exact a0)
    | ((with_reducible apply st_some); exact a1)
    | ((with_reducible apply st_some); exact a2)
    | ((with_reducible apply st_call); exact g14; exact rfl; exact i1; exact rfl)
    | ((with_reducible apply st_call); exact g14; exact rfl; exact i2; exact rfl)
    | ((with_reducible apply st_call); exact g14; exact rfl; exact i3; exact rfl)
    | (with_reducible refine st_join (ds := [.flt e1]) ?_ ?_ ?_)
    | ((with_reducible apply st_callt); assumption; exact rfl; exact rfl; assumption)
    | ((with_reducible apply st_callf); assumption; exact rfl; exact rfl; assumption)
    | ((with_reducible apply st_call); assumption; exact rfl; exact rfl; exact rfl)
    | ((with_reducible apply st_wide); exact rfl; exact rfl)
    | ((with_reducible apply st_skip); exact rfl)
    | ((with_reducible apply st_t); exact rfl; exact rfl)
    | ((with_reducible apply st_f); exact rfl; exact rfl)
    | ((with_reducible apply st_t); exact rfl; assumption)
    | ((with_reducible apply st_f); exact rfl; assumption)
    | ((with_reducible apply st_some); exact rfl)
    | exact rfl
  refine iter_go (ds' := [.flt (fadd .f32 e1 e2), .int 2]) (tb rfl ?_) ?_
  ·unfold S162L0
   repeat' first
    | with_reducible refine st_ift ?_
    | with_reducible refine st_iff ?_
    | ((with_reducible apply st_some); exact w0)
    | ((with_reducible apply st_some); exact w1)
    | ((with_reducible apply st_some); exact w2)
    | ((with_reducible apply st_some); exact a0)
    | ((with_reducible apply st_some); exact a1)
    | ((with_reducible apply st_some); exact a2)
    | ((with_reducible apply st_call); exact g14; exact rfl; exact i1; exact rfl)
    | ((with_reducible apply st_call); exact g14; exact rfl; exact i2; exact rfl)
    | ((with_reducible apply st_call); exact g14; exact rfl; exact i3; exact rfl)
    | (with_reducible refine st_join (ds := [.flt (fadd .f32 e1 e2)]) ?_ ?_ ?_)
    | ((with_reducible apply st_callt); assumption; exact rfl; exact rfl; assumption)
    | ((with_reducible apply st_callf); assumption; exact rfl; exact rfl; assumption)
    | ((with_reducible apply st_call); assumption; exact rfl; exact rfl; exact rfl)
    | ((with_reducible apply st_wide); exact rfl; exact rfl)
    | ((with_reducible apply st_skip); exact rfl)
    | ((with_reducible apply st_t); exact rfl; exact rfl)
    | ((with_reducible apply st_f); exact rfl; exact rfl)
    | ((with_reducible apply st_t); exact rfl; assumption)
    | ((with_reducible apply st_f); exact rfl; assumption)
    | ((with_reducible apply st_some); exact rfl)
    | exact rfl
  refine iter_go (ds' := [.flt (fadd .f32 (fadd .f32 e1 e2) e3), .int 3]) (tb rfl ?_) ?_
  ·unfold S162L0
   repeat' first
    | with_reducible refine st_ift ?_
    | with_reducible refine st_iff ?_
    | ((with_reducible apply st_some); exact w0)
    | ((with_reducible apply st_some); exact w1)
    | ((with_reducible apply st_some); exact w2)
    | ((with_reducible apply st_some); exact a0)
    | ((with_reducible apply st_some); exact a1)
    | ((with_reducible apply st_some); exact a2)
    | ((with_reducible apply st_call); exact g14; exact rfl; exact i1; exact rfl)
    | ((with_reducible apply st_call); exact g14; exact rfl; exact i2; exact rfl)
    | ((with_reducible apply st_call); exact g14; exact rfl; exact i3; exact rfl)
    | (with_reducible refine st_join (ds := [.flt (fadd .f32 (fadd .f32 e1 e2) e3)]) ?_ ?_ ?_)
    | ((with_reducible apply st_callt); assumption; exact rfl; exact rfl; assumption)
    | ((with_reducible apply st_callf); assumption; exact rfl; exact rfl; assumption)
    | ((with_reducible apply st_call); assumption; exact rfl; exact rfl; exact rfl)
    | ((with_reducible apply st_wide); exact rfl; exact rfl)
    | ((with_reducible apply st_skip); exact rfl)
    | ((with_reducible apply st_t); exact rfl; exact rfl)
    | ((with_reducible apply st_f); exact rfl; exact rfl)
    | ((with_reducible apply st_t); exact rfl; assumption)
    | ((with_reducible apply st_f); exact rfl; assumption)
    | ((with_reducible apply st_some); exact rfl)
    | exact rfl
  refine iter_end (l := 0) (ds' := [.flt (fadd .f32 (fadd .f32 e1 e2) e3), .int 3, .bool false]) (tb rfl ?_) rfl;unfold S162L0
  repeat' first
   | with_reducible refine st_ift ?_
   | with_reducible refine st_iff ?_
   | ((with_reducible apply st_callt); assumption; exact rfl; exact rfl; assumption)
   | ((with_reducible apply st_callf); assumption; exact rfl; exact rfl; assumption)
   | ((with_reducible apply st_call); assumption; exact rfl; exact rfl; exact rfl)
   | ((with_reducible apply st_wide); exact rfl; exact rfl)
   | ((with_reducible apply st_skip); exact rfl)
   | ((with_reducible apply st_t); exact rfl; exact rfl)
   | ((with_reducible apply st_f); exact rfl; exact rfl)
   | ((with_reducible apply st_t); exact rfl; assumption)
   | ((with_reducible apply st_f); exact rfl; assumption)
   | ((with_reducible apply st_some); exact rfl)
   | exact rfl
 repeat' first
  | with_reducible refine st_ift ?_
  | with_reducible refine st_iff ?_
  | ((with_reducible apply st_join); exact hloop; exact rfl)
  | ((with_reducible apply st_some); exact hml)
  | ((with_reducible apply st_some); exact hn3)
  | ((with_reducible apply st_call); exact g160; exact rfl; exact fn; exact rfl)
  | ((with_reducible apply st_call); exact g13; exact rfl; exact l1; exact rfl)
  | ((with_reducible apply st_call); exact g13; exact rfl; exact l2; exact rfl)
  | ((with_reducible apply st_call); exact g13; exact rfl; exact l3; exact rfl)
  | ((with_reducible apply st_call); exact g14; exact rfl; exact i1; exact rfl)
  | ((with_reducible apply st_call); exact g14; exact rfl; exact i2; exact rfl)
  | ((with_reducible apply st_call); exact g14; exact rfl; exact i3; exact rfl)
  | ((with_reducible apply st_call); exact g15; exact rfl; exact ln; exact rfl)
  | ((with_reducible apply st_some); exact x0)
  | ((with_reducible apply st_some); exact x1)
  | ((with_reducible apply st_some); exact x2)
  | ((with_reducible apply st_some); exact y0)
  | ((with_reducible apply st_some); exact y1)
  | ((with_reducible apply st_some); exact y2)
  | ((with_reducible apply st_callt); assumption; exact rfl; exact rfl; assumption)
  | ((with_reducible apply st_callf); assumption; exact rfl; exact rfl; assumption)
  | ((with_reducible apply st_call); assumption; exact rfl; exact rfl; exact rfl)
  | ((with_reducible apply st_wide); exact rfl; exact rfl)
  | ((with_reducible apply st_skip); exact rfl)
  | ((with_reducible apply st_t); exact rfl; exact rfl)
  | ((with_reducible apply st_f); exact rfl; exact rfl)
  | ((with_reducible apply st_t); exact rfl; assumption)
  | ((with_reducible apply st_f); exact rfl; assumption)
  | ((with_reducible apply st_some); exact rfl)
  | exact rfl
theorem run163 {G : Told} (g156 : G 156 = F156) (g162 : G 162 = F162) : Runs G F163 T163 := by
 intro ds rs h
 unfold F163 at h
 split at h
 case h_2 => cases h
 rename_i a b k
 obtain ⟨vs, ha, h⟩ := Option.bind_eq_some_iff.1 h
 obtain ⟨ts, hb, h⟩ := Option.bind_eq_some_iff.1 h
 rw [dV_inv ha, dT_inv hb]
 split at h
 case isFalse => cases h
 rename_i hc
 simp only [Option.some.injEq] at h
 subst h
 refine ⟨0, ?_⟩
 rw [eq163]
 unfold S163
 have hv := F156_m (i := k) hc
 cases hval : (validP vs.length ts && inr ts.length k)
 ·rw [hval] at hv
  rw [if_neg (by simp)]
  repeat' first
   | with_reducible refine st_ift ?_
   | with_reducible refine st_iff ?_
   | ((with_reducible apply st_call); exact g156; exact rfl; exact hv; exact rfl)
   | ((with_reducible apply st_callt); assumption; exact rfl; exact rfl; assumption)
   | ((with_reducible apply st_callf); assumption; exact rfl; exact rfl; assumption)
   | ((with_reducible apply st_call); assumption; exact rfl; exact rfl; exact rfl)
   | ((with_reducible apply st_wide); exact rfl; exact rfl)
   | ((with_reducible apply st_skip); exact rfl)
   | ((with_reducible apply st_t); exact rfl; exact rfl)
   | ((with_reducible apply st_f); exact rfl; exact rfl)
   | ((with_reducible apply st_t); exact rfl; assumption)
   | ((with_reducible apply st_f); exact rfl; assumption)
   | ((with_reducible apply st_some); exact rfl)
   | exact rfl
 ·rw [hval] at hv
  rw [if_pos rfl];simp only [Bool.and_eq_true] at hval;have hk := hval.2;unfold inr at hk;simp only [Bool.and_eq_true, decide_eq_true_eq] at hk;obtain ⟨i, rfl⟩ : ∃ i : Nat, k = i := ⟨k.toNat, by omega⟩
  have hi : i < ts.length := by omega
  rw [Int.toNat_natCast];obtain ⟨p, q, r, hcn⟩ := corner_ok hval.1 hi;rw [thk_eq hi hcn];have hf := F162_m (b := tl ts) hcn;have hx := idx_tl hi
  repeat' first
   | with_reducible refine st_ift ?_
   | with_reducible refine st_iff ?_
   | ((with_reducible apply st_call); exact g156; exact rfl; exact hv; exact rfl)
   | ((with_reducible apply st_call); exact g162; exact rfl; exact hf; exact rfl)
   | ((with_reducible apply st_some); exact hx)
   | ((with_reducible apply st_callt); assumption; exact rfl; exact rfl; assumption)
   | ((with_reducible apply st_callf); assumption; exact rfl; exact rfl; assumption)
   | ((with_reducible apply st_call); assumption; exact rfl; exact rfl; exact rfl)
   | ((with_reducible apply st_wide); exact rfl; exact rfl)
   | ((with_reducible apply st_skip); exact rfl)
   | ((with_reducible apply st_t); exact rfl; exact rfl)
   | ((with_reducible apply st_f); exact rfl; exact rfl)
   | ((with_reducible apply st_t); exact rfl; assumption)
   | ((with_reducible apply st_f); exact rfl; assumption)
   | ((with_reducible apply st_some); exact rfl)
   | exact rfl
theorem run165 {G : Told} (g162 : G 162 = F162) (g150 : G 150 = F150) : Runs G F165 T165 := by
 intro ds rs h
 unfold F165 at h
 split at h
 case h_2 => cases h
 rename_i a b k
 obtain ⟨vs, ha, h⟩ := Option.bind_eq_some_iff.1 h
 obtain ⟨ts, hb, h⟩ := Option.bind_eq_some_iff.1 h
 rw [dV_inv ha, dT_inv hb]
 split at h
 case isFalse => cases h
 rename_i hc
 simp only [Option.some.injEq] at h
 subst h
 have hz : szM vs ts = vs.length + ts.length + totL ts := by unfold szM; rfl
 refine ⟨ts.length + 1, ?_⟩
 rw [eq165]
 unfold S165
 have hv := F150_m hc
 have hm := len_tl (l := ts)
 rw [il_nil]
 cases hval : validP vs.length ts
 case false =>
  rw [hval] at hv;rw [if_neg (by simp)]
  repeat' first
   | with_reducible refine st_ift ?_
   | with_reducible refine st_iff ?_
   | ((with_reducible apply st_call); exact g150; exact rfl; exact hv; exact rfl)
   | ((with_reducible apply st_callt); assumption; exact rfl; exact rfl; assumption)
   | ((with_reducible apply st_callf); assumption; exact rfl; exact rfl; assumption)
   | ((with_reducible apply st_call); assumption; exact rfl; exact rfl; exact rfl)
   | ((with_reducible apply st_wide); exact rfl; exact rfl)
   | ((with_reducible apply st_skip); exact rfl)
   | ((with_reducible apply st_t); exact rfl; exact rfl)
   | ((with_reducible apply st_f); exact rfl; exact rfl)
   | ((with_reducible apply st_t); exact rfl; assumption)
   | ((with_reducible apply st_f); exact rfl; assumption)
   | ((with_reducible apply st_some); exact rfl)
   | exact rfl
 rw [hval] at hv
 rw [if_pos rfl]
 have hloop : iter (tbody 2 (S165L0 G (vl vs) (tl ts) (.flt k) (.int (ts.length : Int)))) (ts.length + 1) [.lst [], .int 0] = some (0, [il (thinN vs ts k ts.length), .int (ts.length : Int), .bool false]) := by
  have h1 := iter_upto (body := tbody 2 (S165L0 G (vl vs) (tl ts) (.flt k) (.int (ts.length : Int)))) (n := ts.length) (l := 0) (ds := [il (thinN vs ts k ts.length), .int (ts.length : Int), .bool false])
   (fun i => [il (thinN vs ts k i), .int (i : Int)]) ?_ ?_
  ·simpa [thinN, il_nil] using h1
  ·intro i hi
   refine tb rfl ?_;have h0 : decide ((i : Int) < (ts.length : Int)) = true := by simpa using hi
   obtain ⟨p, q, r, hcn⟩ := corner_ok hval hi;have hk := thk_eq hi hcn;have hx := idx_tl hi;have hf := F162_m (b := tl ts) hcn;have ht := F161_m hi hcn;rw [← hk] at hf ht;have ha := add1n (i := i) (by omega)
   have hl := thinN_len vs ts k i;have hp := app_il (l := thinN vs ts k i) (m := [(i : Int)]) (by simp; omega)
   have hq : (.lst [.int (i : Int)] : D) = il [(i : Int)] := by unfold il; rfl
   rw [← hq] at hp;simp only [thinN];generalize thk vs ts i = th at hf ht ⊢
   cases hlt : flt .f32 th k
   ·rw [if_neg (by simp)]
    generalize il (thinN vs ts k i) = l1;unfold S165L0
    repeat' first
     | with_reducible refine st_ift ?_
     | with_reducible refine st_iff ?_
     | ((with_reducible apply st_call); exact g162; exact rfl; exact hf; exact rfl)
     | (with_reducible refine st_join (ds := [l1]) ?_ ?_ ?_)
     | ((with_reducible apply st_some); exact hx)
     | ((with_reducible apply st_some); exact ha)
     | ((with_reducible apply st_callt); assumption; exact rfl; exact rfl; assumption)
     | ((with_reducible apply st_callf); assumption; exact rfl; exact rfl; assumption)
     | ((with_reducible apply st_call); assumption; exact rfl; exact rfl; exact rfl)
     | ((with_reducible apply st_wide); exact rfl; exact rfl)
     | ((with_reducible apply st_skip); exact rfl)
     | ((with_reducible apply st_t); exact rfl; exact rfl)
     | ((with_reducible apply st_f); exact rfl; exact rfl)
     | ((with_reducible apply st_t); exact rfl; assumption)
     | ((with_reducible apply st_f); exact rfl; assumption)
     | ((with_reducible apply st_some); exact rfl)
     | exact rfl
   ·rw [if_pos rfl]
    generalize il (thinN vs ts k i) = l1 at hp ⊢;generalize il (thinN vs ts k i ++ [(i : Int)]) = l2 at hp ⊢;unfold S165L0
    repeat' first
     | with_reducible refine st_ift ?_
     | with_reducible refine st_iff ?_
     | ((with_reducible apply st_call); exact g162; exact rfl; exact hf; exact rfl)
     | (with_reducible refine st_join (ds := [l2]) ?_ ?_ ?_)
     | ((with_reducible apply st_some); exact hx)
     | ((with_reducible apply st_some); exact ha)
     | ((with_reducible apply st_some); exact hp)
     | ((with_reducible apply st_callt); assumption; exact rfl; exact rfl; assumption)
     | ((with_reducible apply st_callf); assumption; exact rfl; exact rfl; assumption)
     | ((with_reducible apply st_call); assumption; exact rfl; exact rfl; exact rfl)
     | ((with_reducible apply st_wide); exact rfl; exact rfl)
     | ((with_reducible apply st_skip); exact rfl)
     | ((with_reducible apply st_t); exact rfl; exact rfl)
     | ((with_reducible apply st_f); exact rfl; exact rfl)
     | ((with_reducible apply st_t); exact rfl; assumption)
     | ((with_reducible apply st_f); exact rfl; assumption)
     | ((with_reducible apply st_some); exact rfl)
     | exact rfl
  ·refine tb rfl ?_
   have h0 : decide ((ts.length : Int) < (ts.length : Int)) = false := by simp
   unfold S165L0
   repeat' first
    | with_reducible refine st_ift ?_
    | with_reducible refine st_iff ?_
    | ((with_reducible apply st_callt); assumption; exact rfl; exact rfl; assumption)
    | ((with_reducible apply st_callf); assumption; exact rfl; exact rfl; assumption)
    | ((with_reducible apply st_call); assumption; exact rfl; exact rfl; exact rfl)
    | ((with_reducible apply st_wide); exact rfl; exact rfl)
    | ((with_reducible apply st_skip); exact rfl)
    | ((with_reducible apply st_t); exact rfl; exact rfl)
    | ((with_reducible apply st_f); exact rfl; exact rfl)
    | ((with_reducible apply st_t); exact rfl; assumption)
    | ((with_reducible apply st_f); exact rfl; assumption)
    | ((with_reducible apply st_some); exact rfl)
    | exact rfl
 repeat' first
  | with_reducible refine st_ift ?_
  | with_reducible refine st_iff ?_
  | ((with_reducible apply st_join); exact hloop; exact rfl)
  | ((with_reducible apply st_call); exact g150; exact rfl; exact hv; exact rfl)
  | ((with_reducible apply st_some); exact hm)
  | ((with_reducible apply st_callt); assumption; exact rfl; exact rfl; assumption)
  | ((with_reducible apply st_callf); assumption; exact rfl; exact rfl; assumption)
  | ((with_reducible apply st_call); assumption; exact rfl; exact rfl; exact rfl)
  | ((with_reducible apply st_wide); exact rfl; exact rfl)
  | ((with_reducible apply st_skip); exact rfl)
  | ((with_reducible apply st_t); exact rfl; exact rfl)
  | ((with_reducible apply st_f); exact rfl; exact rfl)
  | ((with_reducible apply st_t); exact rfl; assumption)
  | ((with_reducible apply st_f); exact rfl; assumption)
  | ((with_reducible apply st_some); exact rfl)
  | exact rfl
end Vs
