/-
  Meshes that are the same: what SameMesh answers for a mesh and itself; SameForm.
-/
import Derived.Test.YtaakjnkllodchaaGreatK8
import Derived.Test.YtaakjnkllodchaaGreatK28
import Derived.Test.YtaakjnkllodchaaGreatMf5
set_option maxHeartbeats 4000000
namespace Vs
open Go Ieee
def finV (v : V3) : Prop := rk .f32 v.x < inf .f32 ∧ rk .f32 v.y < inf .f32 ∧ rk .f32 v.z < inf .f32
instance (v : V3) : Decidable (finV v) := inferInstanceAs (Decidable (_ ∧ _))
def sgb (x : Nat) : Bool := decide (IntKind.wrap .i64 (x : Int) < 0)
def F567 : List D → Option (List D)
 | [.flt x] => if isnan .f64 x = false then some [.bool (sgb x)] else none
 | _ => none
def F566 : List D → Option (List D)
 | [.flt x, .flt y] => if x = y ∧ (rk .f32 x < inf .f32 ∨ feq .f32 x x = false) then some [.bool true] else none
 | _ => none
def F565 : List D → Option (List D)
 | [.flt x, .flt y, .flt z, .flt a, .flt b, .flt c] => if (x = a ∧ y = b ∧ z = c) ∧ finV ⟨x, y, z⟩ then some [.bool true] else none
 | _ => none
def T565 : T :=
(cc 566 [0, 3] 1 <|
oT 6 .id [1] <|
oT 6 .id [4] <|
cT 6 566 [7, 8] 1 <|
oo .pick [6, 9, kN] <|
oT 10 .id [2] <|
oT 10 .id [5] <|
cT 10 566 [11, 12] 1 <|
oo .pick [10, 13, kN] <|
.out 0 [14])
def S565 (G : Told) (_fuel : Nat) (x0 x1 x2 x3 x4 x5 : D) : Option (Nat × List D) :=
 (gcall G none 566 [x0, x3] 1).bind fun e6 =>
 (gev (some ((e6.getD 0 .undef), true)) .id [x1]).bind fun x7 =>
 (gev (some ((e6.getD 0 .undef), true)) .id [x4]).bind fun x8 =>
 (gcall G (some ((e6.getD 0 .undef), true)) 566 [x7, x8] 1).bind fun e9 =>
 (gev none .pick [e6.getD 0 .undef, e9.getD 0 .undef, .bool false]).bind fun x10 =>
 (gev (some (x10, true)) .id [x2]).bind fun x11 =>
 (gev (some (x10, true)) .id [x5]).bind fun x12 =>
 (gcall G (some (x10, true)) 566 [x11, x12] 1).bind fun e13 =>
 (gev none .pick [x10, e13.getD 0 .undef, .bool false]).bind fun x14 =>
 some (0, [x14])
theorem eq565 {G fuel} (x0 x1 x2 x3 x4 x5) : run G fuel T565 [x0, x1, x2, x3, x4, x5] = S565 G fuel x0 x1 x2 x3 x4 x5 := by rw [run_eq]; kernel_rfl
def T566 : T :=
(oo (.fcm .neq .f32) [0, 0] <|
oN 2 .id [1] <|
oN 2 .id [1] <|
oN 2 (.fcm .neq .f32) [3, 4] <|
oo .pick [2, kT, 5] <|
.ite 6
 (oo (.fcm .neq .f32) [0, 0] <|
 oT 7 .id [1] <|
 oT 7 .id [1] <|
 oT 7 (.fcm .neq .f32) [8, 9] <|
 oo .pick [7, 10, kN] <|
 .out 0 [11])
 (oo (.fcm .eql .f32) [0, 1] <|
 oT 7 .id [0] <|
 oT 7 (.f2f .f32 .f64) [8] <|
 cT 7 567 [9] 1 <|
 oT 7 .id [1] <|
 oT 7 (.f2f .f32 .f64) [11] <|
 cT 7 567 [12] 1 <|
 oT 7 .beq [10, 13] <|
 oo .pick [7, 14, kN] <|
 .out 0 [15]))
def S566 (G : Told) (_fuel : Nat) (x0 x1 : D) : Option (Nat × List D) :=
 (gev none (.fcm .neq .f32) [x0, x0]).bind fun x2 =>
 (gev (some (x2, false)) .id [x1]).bind fun x3 =>
 (gev (some (x2, false)) .id [x1]).bind fun x4 =>
 (gev (some (x2, false)) (.fcm .neq .f32) [x3, x4]).bind fun x5 =>
 (gev none .pick [x2, .bool true, x5]).bind fun x6 =>
 tif x6 (
  (gev none (.fcm .neq .f32) [x0, x0]).bind fun x7 =>
  (gev (some (x7, true)) .id [x1]).bind fun x8 =>
  (gev (some (x7, true)) .id [x1]).bind fun x9 =>
  (gev (some (x7, true)) (.fcm .neq .f32) [x8, x9]).bind fun x10 =>
  (gev none .pick [x7, x10, .bool false]).bind fun x11 =>
  some (0, [x11])) (
  (gev none (.fcm .eql .f32) [x0, x1]).bind fun x7 =>
  (gev (some (x7, true)) .id [x0]).bind fun x8 =>
  (gev (some (x7, true)) (.f2f .f32 .f64) [x8]).bind fun x9 =>
  (gcall G (some (x7, true)) 567 [x9] 1).bind fun e10 =>
  (gev (some (x7, true)) .id [x1]).bind fun x11 =>
  (gev (some (x7, true)) (.f2f .f32 .f64) [x11]).bind fun x12 =>
  (gcall G (some (x7, true)) 567 [x12] 1).bind fun e13 =>
  (gev (some (x7, true)) .beq [e10.getD 0 .undef, e13.getD 0 .undef]).bind fun x14 =>
  (gev none .pick [x7, x14, .bool false]).bind fun x15 =>
  some (0, [x15]))
theorem eq566 {G fuel} (x0 x1) : run G fuel T566 [x0, x1] = S566 G fuel x0 x1 := by rw [run_eq]; kernel_rfl
def T567 : T :=
(oo (.f2b .f64) [0] <|
oo (.i2i .i64) [1] <|
oo (.icm .lss) [2, kI 0] <|
.out 0 [3])
def S567 (_G : Told) (_fuel : Nat) (x0 : D) : Option (Nat × List D) :=
 (gev none (.f2b .f64) [x0]).bind fun x1 =>
 (gev none (.i2i .i64) [x1]).bind fun x2 =>
 (gev none (.icm .lss) [x2, .int 0]).bind fun x3 =>
 some (0, [x3])
theorem eq567 {G fuel} (x0) : run G fuel T567 [x0] = S567 G fuel x0 := by rw [run_eq]; kernel_rfl
attribute [local irreducible] vl il tl totL szM validP tif tjoin IntKind.wrap F150

theorem p_f2b {x : Nat} (h : isnan .f64 x = false) : gev none (.f2b .f64) [.flt x] = some (.int x) := by simp [gev, gok, Prim.ev, h]
theorem run567 {G : Told} : Runs G F567 T567 := by
 intro ds rs h
 unfold F567 at h
 split at h
 case h_2 => cases h
 rename_i x
 split at h
 case isFalse => cases h
 rename_i hc
 simp only [Option.some.injEq] at h
 subst h
 refine ⟨0, ?_⟩
 rw [eq567]
 unfold S567
 exact st_some (p_f2b hc) rfl
attribute [local irreducible] sgb F567 F566 F565 feq

theorem p_fneq {x y : Nat} : gev none (.fcm .neq .f32) [.flt x, .flt y] = some (.bool (!feq .f32 x y)) := (rfl)
theorem p_wide {x : Nat} : gev none (.f2f .f32 .f64) [.flt x] = some (.flt (wide x)) := by simp [gev, gok, Prim.ev, f2f_wide]
theorem run566 {G : Told} (g567 : G 567 = F567) : Runs G F566 T566 := by
 intro ds rs h
 have e : F566 = fun l => match l with | [.flt x, .flt y] => if x = y ∧ (rk .f32 x < inf .f32 ∨ feq .f32 x x = false) then some [.bool true] else none | _ => none := by with_unfolding_all rfl
 rw [e] at h
 dsimp only at h
 split at h
 case h_2 => cases h
 rename_i x y
 split at h
 case isFalse => cases h
 rename_i hc
 simp only [Option.some.injEq] at h
 subst h
 obtain ⟨rfl, hc⟩ := hc
 rcases hc with hc | hc
 rotate_left
 ·have p1 : gev none (.fcm .neq .f32) [.flt x, .flt x] = some (.bool true) := by rw [p_fneq, hc]; rfl
  refine ⟨0, ?_⟩;rw [eq566];unfold S566;refine st_some p1 ?_;refine st_some g_tf ?_;refine st_some g_tf ?_;refine st_some g_tf ?_;refine st_some p_pt ?_;refine st_ift ?_;refine st_some p1 ?_;refine st_some (g_tt.trans p_id) ?_;refine st_some (g_tt.trans p_id) ?_;refine st_some (g_tt.trans p1) ?_;exact st_some p_pt rfl
 have hq : feq .f32 x x = true := by rw [feq_R hc hc]; exact decide_eq_true rfl
 have hw : isnan .f64 (wide x) = false := by
  obtain ⟨r, e, hr, _⟩ := wide_word hc;refine isnan_R ?_;rw [e, show rk .f64 (double.word (sgn single x) r) = r from rk_word (k := .f64) (Nat.le_of_lt hr)]
  exact hr
 have hF : F567 [.flt (wide x)] = some [.bool (sgb (wide x))] := by with_unfolding_all exact if_pos hw
 have p1 : gev none (.fcm .neq .f32) [.flt x, .flt x] = some (.bool false) := by rw [p_fneq, hq]; rfl
 have p2 : gev none (.fcm .eql .f32) [.flt x, .flt x] = some (.bool true) := by rw [p_feql, hq]
 refine ⟨0, ?_⟩
 rw [eq566]
 unfold S566
 refine st_some p1 ?_
 refine st_some (g_ff.trans p_id) ?_
 refine st_some (g_ff.trans p_id) ?_
 refine st_some (g_ff.trans p1) ?_
 refine st_some p_pf ?_
 refine st_iff ?_
 refine st_some p2 ?_
 refine st_some (g_tt.trans p_id) ?_
 refine st_some (g_tt.trans p_wide) ?_
 refine st_some (c_tt.trans (gcall_on g567 rfl hF rfl)) ?_
 refine st_some (g_tt.trans p_id) ?_
 refine st_some (g_tt.trans p_wide) ?_
 refine st_some (c_tt.trans (gcall_on g567 rfl hF rfl)) ?_
 refine st_some (g_tt.trans p_beq) ?_
 refine st_some p_pt ?_
 rw [beq_self_eq_true]
theorem F566_m {x : Nat} (h : rk .f32 x < inf .f32) : F566 [.flt x, .flt x] = some [.bool true] := by with_unfolding_all exact if_pos ⟨rfl, .inl h⟩
theorem F565_m {v : V3} (h : finV v) : F565 [.flt v.x, .flt v.y, .flt v.z, .flt v.x, .flt v.y, .flt v.z] = some [.bool true] := by with_unfolding_all exact if_pos ⟨⟨rfl, rfl, rfl⟩, h⟩
theorem run565 {G : Told} (g566 : G 566 = F566) : Runs G F565 T565 := by
 intro ds rs h
 have e : F565 = fun l => match l with | [.flt x, .flt y, .flt z, .flt a, .flt b, .flt c] => if (x = a ∧ y = b ∧ z = c) ∧ finV ⟨x, y, z⟩ then some [.bool true] else none | _ => none := by with_unfolding_all rfl
 rw [e] at h
 dsimp only at h
 split at h
 case h_2 => cases h
 rename_i x y z a b c
 split at h
 case isFalse => cases h
 rename_i hc
 simp only [Option.some.injEq] at h
 subst h
 obtain ⟨⟨rfl, rfl, rfl⟩, h1, h2, h3⟩ := hc
 refine ⟨0, ?_⟩
 rw [eq565]
 unfold S565
 refine st_some (gcall_on g566 rfl (F566_m h1) rfl) ?_
 refine st_some (g_tt.trans p_id) ?_
 refine st_some (g_tt.trans p_id) ?_
 refine st_some (c_tt.trans (gcall_on g566 rfl (F566_m h2) rfl)) ?_
 refine st_some p_pt ?_
 refine st_some (g_tt.trans p_id) ?_
 refine st_some (g_tt.trans p_id) ?_
 refine st_some (c_tt.trans (gcall_on g566 rfl (F566_m h3) rfl)) ?_
 refine st_some p_pt ?_
 rfl
end Vs
