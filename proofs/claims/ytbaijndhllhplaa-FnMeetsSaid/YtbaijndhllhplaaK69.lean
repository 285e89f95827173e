/-
  The point of meeting: the law.
-/
import Derived.Test.YtbaijndhllhplaaK68
import Derived.Test.YtbaijndhllhplaaKm2
set_option maxHeartbeats 4000000
namespace Vs
open Go Go.Sort Ieee
open Classical in
noncomputable def F581 : List D → Option (List D)
 | [a, b] => (dI a).bind fun l => (dI b).bind fun m => if (∀ x ∈ l, 0 ≤ x ∧ x ≤ 255) ∧ (∀ x ∈ m, 0 ≤ x ∧ x ≤ 255) then some [.bool true] else none
 | _ => none
def T581 : T :=
(cc 220 [0, 1] 1 <|
.ite 2
 (.out 0 [kT])
 (cc 580 [0, kI 0] 3 <|
 cc 580 [0, kI 3] 3 <|
 cc 580 [0, kI 6] 3 <|
 cc 221 [1, kI 0, kI 10] 1 <|
 cc 32 [3, 4, 5, 6, 7, 8, 9, 10, 11, 12] 4 <|
 oo (.iar .add .i64) [12, kI 1] <|
 cc 32 [3, 4, 5, 6, 7, 8, 9, 10, 11, 17] 4 <|
 oo .bnot [16] <|
 oN 22 .id [21] <|
 oN 22 .bnot [23] <|
 oo .pick [22, kT, 24] <|
 cN 25 17 [18, 19, 20, 3, 4, 5, 6, 7, 8, 9, 10, 11] 1 <|
 oN 25 (.f2f .f32 .f64) [26] <|
 cN 25 17 [13, 14, 15, 3, 4, 5, 6, 7, 8, 9, 10, 11] 1 <|
 oN 25 (.f2f .f32 .f64) [28] <|
 oN 25 (.far .add .f64) [29, kF 4562254508917369340] <|
 oN 25 (.fcm .gtr .f64) [27, 30] <|
 oo .pick [25, kT, 31] <|
 .ite 32
  (.out 0 [kN])
  (cc 221 [1, kI 1, kI 16] 1 <|
  oo (.i2f .f32) [33] <|
  oo (.far .quo .f32) [34, kF 1098907648] <|
  oo .mklst [] <|
  .join 4
   (.loop [36, kI 0]
    (oo (.icm .lss) [38, kI 3] <|
    .ite 39
     (oo (.i2f .f32) [38] <|
     oo (.far .quo .f32) [40, kF 1077936128] <|
     oo (.far .add .f32) [35, 41] <|
     oo (.far .add .f32) [42, kF 1048576000] <|
     cc 474 [43] 1 <|
     oo (.far .mul .f32) [kF 1073741824, 44] <|
     cc 474 [42] 1 <|
     oo (.far .mul .f32) [kF 1073741824, 46] <|
     oo .mkagg [45, 47, kF 0] <|
     oo .mklst [48] <|
     oo .app [37, 49] <|
     oo (.iar .add .i64) [38, kI 1] <|
     .out 0 [50, 51])
     (.out 1 [37, 38, 38, 39])))
  (oo .idx [37, kI 0] <|
  oo .idx [37, kI 0] <|
  oo (.proj 0) [42] <|
  oo (.proj 1) [42] <|
  oo (.proj 2) [42] <|
  oo .idx [37, kI 1] <|
  oo .idx [37, kI 1] <|
  oo (.proj 0) [47] <|
  oo (.proj 1) [47] <|
  oo (.proj 2) [47] <|
  oo .idx [37, kI 2] <|
  oo .idx [37, kI 2] <|
  oo (.proj 0) [52] <|
  oo (.proj 1) [52] <|
  oo (.proj 2) [52] <|
  cc 301 [43, 44, 45, 48, 49, 50, 53, 54, 55] 2 <|
  cc 301 [3, 4, 5, 3, 4, 5, 3, 4, 5] 2 <|
  cc 301 [3, 4, 5, kF 0, kF 0, kF 0, 9, 10, 11] 2 <|
  oT 57 .id [59] <|
  oo .pick [57, 62, kN] <|
  oT 63 .id [61] <|
  oT 63 .bnot [64] <|
  oo .pick [63, 65, kN] <|
  oT 66 .id [56] <|
  oT 66 (.f2f .f32 .f64) [67] <|
  oT 66 (.fcm .lss .f64) [68, kF 4562254508917369340] <|
  oo .pick [66, 69, kN] <|
  oT 70 .id [58] <|
  oT 70 (.f2f .f32 .f64) [71] <|
  cT 70 231 [72, kF 4613937818241073152] 1 <|
  oT 70 (.fcm .lss .f64) [73, kF 4562254508917369340] <|
  oo .pick [70, 74, kN] <|
  .out 0 [75]))))
def S581L0 (G : Told) (x35 : D) : List D → Option (Nat × List D) := fun e37 =>
     (gev none (.icm .lss) [e37.getD 1 .undef, .int 3]).bind fun x39 =>
     tif x39 (
      (gev none (.i2f .f32) [e37.getD 1 .undef]).bind fun x40 =>
      (gev none (.far .quo .f32) [x40, .flt 1077936128]).bind fun x41 =>
      (gev none (.far .add .f32) [x35, x41]).bind fun x42 =>
      (gev none (.far .add .f32) [x42, .flt 1048576000]).bind fun x43 =>
      (gcall G none 474 [x43] 1).bind fun e44 =>
      (gev none (.far .mul .f32) [.flt 1073741824, e44.getD 0 .undef]).bind fun x45 =>
      (gcall G none 474 [x42] 1).bind fun e46 =>
      (gev none (.far .mul .f32) [.flt 1073741824, e46.getD 0 .undef]).bind fun x47 =>
      (gev none .mkagg [x45, x47, .flt 0]).bind fun x48 =>
      (gev none .mklst [x48]).bind fun x49 =>
      (gev none .app [e37.getD 0 .undef, x49]).bind fun x50 =>
      (gev none (.iar .add .i64) [e37.getD 1 .undef, .int 1]).bind fun x51 =>
      some (0, [x50, x51])) (
      some (1, [e37.getD 0 .undef, e37.getD 1 .undef, e37.getD 1 .undef, x39]))
def S581 (G : Told) (fuel : Nat) (x0 x1 : D) : Option (Nat × List D) :=
 (gcall G none 220 [x0, x1] 1).bind fun e2 =>
 tif (e2.getD 0 .undef) (
  some (0, [.bool true])) (
  (gcall G none 580 [x0, .int 0] 3).bind fun e3 =>
  (gcall G none 580 [x0, .int 3] 3).bind fun e6 =>
  (gcall G none 580 [x0, .int 6] 3).bind fun e9 =>
  (gcall G none 221 [x1, .int 0, .int 10] 1).bind fun e12 =>
  (gcall G none 32 [e3.getD 0 .undef, e3.getD 1 .undef, e3.getD 2 .undef, e6.getD 0 .undef, e6.getD 1 .undef, e6.getD 2 .undef, e9.getD 0 .undef, e9.getD 1 .undef, e9.getD 2 .undef, e12.getD 0 .undef] 4).bind fun e13 =>
  (gev none (.iar .add .i64) [e12.getD 0 .undef, .int 1]).bind fun x17 =>
  (gcall G none 32 [e3.getD 0 .undef, e3.getD 1 .undef, e3.getD 2 .undef, e6.getD 0 .undef, e6.getD 1 .undef, e6.getD 2 .undef, e9.getD 0 .undef, e9.getD 1 .undef, e9.getD 2 .undef, x17] 4).bind fun e18 =>
  (gev none .bnot [e13.getD 3 .undef]).bind fun x22 =>
  (gev (some (x22, false)) .id [e18.getD 3 .undef]).bind fun x23 =>
  (gev (some (x22, false)) .bnot [x23]).bind fun x24 =>
  (gev none .pick [x22, .bool true, x24]).bind fun x25 =>
  (gcall G (some (x25, false)) 17 [e18.getD 0 .undef, e18.getD 1 .undef, e18.getD 2 .undef, e3.getD 0 .undef, e3.getD 1 .undef, e3.getD 2 .undef, e6.getD 0 .undef, e6.getD 1 .undef, e6.getD 2 .undef, e9.getD 0 .undef, e9.getD 1 .undef, e9.getD 2 .undef] 1).bind fun e26 =>
  (gev (some (x25, false)) (.f2f .f32 .f64) [e26.getD 0 .undef]).bind fun x27 =>
  (gcall G (some (x25, false)) 17 [e13.getD 0 .undef, e13.getD 1 .undef, e13.getD 2 .undef, e3.getD 0 .undef, e3.getD 1 .undef, e3.getD 2 .undef, e6.getD 0 .undef, e6.getD 1 .undef, e6.getD 2 .undef, e9.getD 0 .undef, e9.getD 1 .undef, e9.getD 2 .undef] 1).bind fun e28 =>
  (gev (some (x25, false)) (.f2f .f32 .f64) [e28.getD 0 .undef]).bind fun x29 =>
  (gev (some (x25, false)) (.far .add .f64) [x29, .flt 4562254508917369340]).bind fun x30 =>
  (gev (some (x25, false)) (.fcm .gtr .f64) [x27, x30]).bind fun x31 =>
  (gev none .pick [x25, .bool true, x31]).bind fun x32 =>
  tif x32 (
   some (0, [.bool false])) (
   (gcall G none 221 [x1, .int 1, .int 16] 1).bind fun e33 =>
   (gev none (.i2f .f32) [e33.getD 0 .undef]).bind fun x34 =>
   (gev none (.far .quo .f32) [x34, .flt 1098907648]).bind fun x35 =>
   (gev none .mklst []).bind fun x36 =>
   tjoin 4 (
    iter (tbody 2 (S581L0 G x35)) fuel [x36, .int 0]) fun e37 =>
   (gev none .idx [e37.getD 0 .undef, .int 0]).bind fun _x41 =>
   (gev none .idx [e37.getD 0 .undef, .int 0]).bind fun x42 =>
   (gev none (.proj 0) [x42]).bind fun x43 =>
   (gev none (.proj 1) [x42]).bind fun x44 =>
   (gev none (.proj 2) [x42]).bind fun x45 =>
   (gev none .idx [e37.getD 0 .undef, .int 1]).bind fun _x46 =>
   (gev none .idx [e37.getD 0 .undef, .int 1]).bind fun x47 =>
   (gev none (.proj 0) [x47]).bind fun x48 =>
   (gev none (.proj 1) [x47]).bind fun x49 =>
   (gev none (.proj 2) [x47]).bind fun x50 =>
   (gev none .idx [e37.getD 0 .undef, .int 2]).bind fun _x51 =>
   (gev none .idx [e37.getD 0 .undef, .int 2]).bind fun x52 =>
   (gev none (.proj 0) [x52]).bind fun x53 =>
   (gev none (.proj 1) [x52]).bind fun x54 =>
   (gev none (.proj 2) [x52]).bind fun x55 =>
   (gcall G none 301 [x43, x44, x45, x48, x49, x50, x53, x54, x55] 2).bind fun e56 =>
   (gcall G none 301 [e3.getD 0 .undef, e3.getD 1 .undef, e3.getD 2 .undef, e3.getD 0 .undef, e3.getD 1 .undef, e3.getD 2 .undef, e3.getD 0 .undef, e3.getD 1 .undef, e3.getD 2 .undef] 2).bind fun e58 =>
   (gcall G none 301 [e3.getD 0 .undef, e3.getD 1 .undef, e3.getD 2 .undef, .flt 0, .flt 0, .flt 0, e9.getD 0 .undef, e9.getD 1 .undef, e9.getD 2 .undef] 2).bind fun e60 =>
   (gev (some ((e56.getD 1 .undef), true)) .id [e58.getD 1 .undef]).bind fun x62 =>
   (gev none .pick [e56.getD 1 .undef, x62, .bool false]).bind fun x63 =>
   (gev (some (x63, true)) .id [e60.getD 1 .undef]).bind fun x64 =>
   (gev (some (x63, true)) .bnot [x64]).bind fun x65 =>
   (gev none .pick [x63, x65, .bool false]).bind fun x66 =>
   (gev (some (x66, true)) .id [e56.getD 0 .undef]).bind fun x67 =>
   (gev (some (x66, true)) (.f2f .f32 .f64) [x67]).bind fun x68 =>
   (gev (some (x66, true)) (.fcm .lss .f64) [x68, .flt 4562254508917369340]).bind fun x69 =>
   (gev none .pick [x66, x69, .bool false]).bind fun x70 =>
   (gev (some (x70, true)) .id [e58.getD 0 .undef]).bind fun x71 =>
   (gev (some (x70, true)) (.f2f .f32 .f64) [x71]).bind fun x72 =>
   (gcall G (some (x70, true)) 231 [x72, .flt 4613937818241073152] 1).bind fun e73 =>
   (gev (some (x70, true)) (.fcm .lss .f64) [e73.getD 0 .undef, .flt 4562254508917369340]).bind fun x74 =>
   (gev none .pick [x70, x74, .bool false]).bind fun x75 =>
   some (0, [x75])))
theorem eq581 {G fuel} (x0 x1) : run G fuel T581 [x0, x1] = S581 G fuel x0 x1 := by rw [run_eq]; kernel_rfl
section
variable {x d : D} {b w : Bool} {p : Prim} {xs : List D} {X : Option (Nat × List D)} {K : D → Option (Nat × List D)}
theorem sI (k : K x = X) : (gev (some (.bool false, false)) .id [x]).bind K = X := st_some (g_ff.trans p_id) k
theorem sT (k : K x = X) : (gev (some (.bool true, true)) .id [x]).bind K = X := st_some (g_tt.trans p_id) k
theorem sN (k : K (.bool !b) = X) : (gev (some (.bool false, false)) .bnot [.bool b]).bind K = X := st_some (g_ff.trans p_bnot) k
theorem sP (k : K d = X) : (gev none .pick [.bool false, x, d]).bind K = X := st_some p_pf k
theorem sQ (k : K x = X) : (gev none .pick [.bool true, x, d]).bind K = X := st_some p_pt k
end
theorem w_wide {x : Nat} : gev none (.f2f .f32 .f64) [.flt x] = some (.flt (wide x)) := by simp only [gev, gok, if_true, Prim.ev, f2f_wide, Option.map_some]
theorem w_fadd8 {x y : Nat} : gev none (.far .add .f64) [.flt x, .flt y] = some (.flt (fadd .f64 x y)) := rfl
theorem w_fgt8 {x y : Nat} : gev none (.fcm .gtr .f64) [.flt x, .flt y] = some (.bool (fgt .f64 x y)) := rfl
theorem w_flt8 {x y : Nat} : gev none (.fcm .lss .f64) [.flt x, .flt y] = some (.bool (flt .f64 x y)) := rfl
theorem app_w {l : List V3} {v : V3} (h : l.length < 1048576) : gev none .app [vl l, .lst [vec v]] = some (vl (l ++ [v])) := by
 have := app_vls (l := l) (m := [v]) (by simp; omega)
 exact this
theorem allZ_at {x y z : Nat} : ∀ {L : List Nat}, allZ x y L = true → z ∈ L → (nilF x y z || sam1 x y z) = true
 | [], _, h => by cases h
 | w :: t, h, hz => by
  rw [allZ, Bool.and_eq_true] at h
  rcases List.mem_cons.1 hz with e | e
  ·subst e; exact h.1
  ·exact allZ_at h.2 e
theorem allY_at {x y : Nat} : ∀ {L : List Nat}, allY x L = true → y ∈ L → allZ x y qL = true
 | [], _, h => by cases h
 | w :: t, h, hz => by
  rw [allY, Bool.and_eq_true] at h
  rcases List.mem_cons.1 hz with e | e
  ·subst e; exact h.1
  ·exact allY_at h.2 e
theorem allX {x : Nat} (h : x ∈ qL) : allY x qL = true := by
 unfold qL at h
 simp only [List.mem_cons, List.not_mem_nil, or_false] at h
 rcases h with h | h | h | h | h | h | h | h | h | h | h | h | h | h | h | h | h <;> rw [h]
 ·exact all_0
 ·exact all_1
 ·exact all_2
 ·exact all_3
 ·exact all_4
 ·exact all_5
 ·exact all_6
 ·exact all_7
 ·exact all_8
 ·exact all_9
 ·exact all_10
 ·exact all_11
 ·exact all_12
 ·exact all_13
 ·exact all_14
 ·exact all_15
 ·exact all_16
theorem finS_R {x : Nat} (h : finS x = true) : rk .f64 x < inf .f64 := by
 unfold finS at h
 rw [Nat.ble_eq] at h
 exact h
theorem same_ok (l : List Int) (k : Nat) : ∃ g, F231 [.flt (wide (restV (rvV l k) (rvV l k) (rvV l k))), .flt 4613937818241073152] = some [.flt g] ∧ flt .f64 g 4562254508917369340 = true := by
 obtain ⟨⟨a1, a2⟩, ⟨b1, b2⟩, ⟨c1, c2⟩, hn⟩ := rvQ_r l k
 have qa := qf_at a1 a2; have qb := qf_at b1 b2; have qc := qf_at c1 c2
 have h := allZ_at (allY_at (allX qa.2.2.2.1) qb.2.2.2.1) qc.2.2.2.1
 have h0 : nilF (qf (rvQ l k).1) (qf (rvQ l k).2.1) (qf (rvQ l k).2.2) = false := by unfold nilF;rw [qa.2.2.2.2.1, qb.2.2.2.2.1, qc.2.2.2.2.1];rw [← Bool.not_eq_true];intro hh;simp only [Bool.and_eq_true, decide_eq_true_eq] at hh;exact hn (Prod.ext hh.1 (Prod.ext hh.2.1 hh.2.2))
 rw [h0, Bool.false_or] at h
 unfold sam1 sam2 sam3 sam4 at h
 simp only [Bool.and_eq_true, lngF_eq, fltF_eq, fsubF_eq, wideF_eq, faddF_eq, fmulF_eq, fdivF_eq] at h
 have e : restV (rvV l k) (rvV l k) (rvV l k) = longP (fadd .f32 (fadd .f32 (fmul .f32 (qf (rvQ l k).1) (fdiv .f32 1065353216 (longP (qf (rvQ l k).1) (qf (rvQ l k).2.1) (qf (rvQ l k).2.2)))) (fmul .f32 (qf (rvQ l k).1) (fdiv .f32 1065353216 (longP (qf (rvQ l k).1) (qf (rvQ l k).2.1) (qf (rvQ l k).2.2))))) (fmul .f32 (qf (rvQ l k).1) (fdiv .f32 1065353216 (longP (qf (rvQ l k).1) (qf (rvQ l k).2.1) (qf (rvQ l k).2.2)))))
  (fadd .f32 (fadd .f32 (fmul .f32 (qf (rvQ l k).2.1) (fdiv .f32 1065353216 (longP (qf (rvQ l k).1) (qf (rvQ l k).2.1) (qf (rvQ l k).2.2)))) (fmul .f32 (qf (rvQ l k).2.1) (fdiv .f32 1065353216 (longP (qf (rvQ l k).1) (qf (rvQ l k).2.1) (qf (rvQ l k).2.2))))) (fmul .f32 (qf (rvQ l k).2.1) (fdiv .f32 1065353216 (longP (qf (rvQ l k).1) (qf (rvQ l k).2.1) (qf (rvQ l k).2.2)))))
  (fadd .f32 (fadd .f32 (fmul .f32 (qf (rvQ l k).2.2) (fdiv .f32 1065353216 (longP (qf (rvQ l k).1) (qf (rvQ l k).2.1) (qf (rvQ l k).2.2)))) (fmul .f32 (qf (rvQ l k).2.2) (fdiv .f32 1065353216 (longP (qf (rvQ l k).1) (qf (rvQ l k).2.1) (qf (rvQ l k).2.2))))) (fmul .f32 (qf (rvQ l k).2.2) (fdiv .f32 1065353216 (longP (qf (rvQ l k).1) (qf (rvQ l k).2.1) (qf (rvQ l k).2.2))))) := rfl
 rw [← e] at h
 obtain ⟨⟨⟨h1, h2⟩, h3⟩, h4⟩ := h
 obtain ⟨g, g1, g2⟩ := fmax_or (finS_R h3) (finS_R h4)
 refine ⟨g, ?_, ?_⟩
 ·simp only [F231, g1, Option.map_some]
 ·rcases g2 with e | e <;> rw [e]
  ·exact h1
  ·exact h2
theorem end_fin {l : List Int} {k : Nat} : (rvV l k).fin = true := by
 have := rv_good l k
 unfold badV at this
 rw [Bool.or_eq_false_iff, Bool.not_eq_false'] at this
 exact this.1
theorem bad_0 : badV ⟨0, 0, 0⟩ = true := by decide +kernel
def pzV (l : List Int) : V3 := (((rvV l 0).add (rvV l 3)).add (rvV l 6)).scale 1051372203
theorem meetP_ok (l : List Int) {n : Nat} (h : n ≤ 100) : meetP (rvV l 0) (rvV l 3) (rvV l 6) (n : Int) = some (meetN (rvV l 0) (rvV l 3) (rvV l 6) n (pzV l)) := by
 unfold meetP
 rw [end_fin, end_fin, end_fin, decide_eq_true (show (0 : Int) ≤ n by omega), decide_eq_true (show (n : Int) ≤ 100 by omega), Int.toNat_natCast]
 rfl
theorem F32_ok (l : List Int) {n : Nat} (h : n ≤ 100) : F32 [.flt (rvV l 0).x, .flt (rvV l 0).y, .flt (rvV l 0).z, .flt (rvV l 3).x, .flt (rvV l 3).y, .flt (rvV l 3).z, .flt (rvV l 6).x, .flt (rvV l 6).y, .flt (rvV l 6).z, .int (n : Int)] =
  some [.flt (meetN (rvV l 0) (rvV l 3) (rvV l 6) n (pzV l)).x, .flt (meetN (rvV l 0) (rvV l 3) (rvV l 6) n (pzV l)).y, .flt (meetN (rvV l 0) (rvV l 3) (rvV l 6) n (pzV l)).z, .bool true] := by
 have := meetP_ok l h
 simp only [F32]
 rw [show (⟨(rvV l 0).x, (rvV l 0).y, (rvV l 0).z⟩ : V3) = rvV l 0 from rfl, show (⟨(rvV l 3).x, (rvV l 3).y, (rvV l 3).z⟩ : V3) = rvV l 3 from rfl, show (⟨(rvV l 6).x, (rvV l 6).y, (rvV l 6).z⟩ : V3) = rvV l 6 from rfl, this]
 rfl
theorem F17_ok (p a b c : V3) : F17 [.flt p.x, .flt p.y, .flt p.z, .flt a.x, .flt a.y, .flt a.z, .flt b.x, .flt b.y, .flt b.z, .flt c.x, .flt c.y, .flt c.z] = some [.flt (pathV p a b c)] := rfl
theorem F301_ok {a b c : V3} (ha : badV a = false) (hb : badV b = false) (hc : badV c = false) : F301 [.flt a.x, .flt a.y, .flt a.z, .flt b.x, .flt b.y, .flt b.z, .flt c.x, .flt c.y, .flt c.z] = some [.flt (restV a b c), .bool true] := by
 simp only [F301]
 rw [if_neg]
 rintro (h | h | h)
 ·rw [show badV ⟨a.x, a.y, a.z⟩ = badV a from rfl, ha] at h; cases h
 ·rw [show badV ⟨b.x, b.y, b.z⟩ = badV b from rfl, hb] at h; cases h
 ·rw [show badV ⟨c.x, c.y, c.z⟩ = badV c from rfl, hc] at h; cases h
theorem F301_no {a c : V3} : F301 [.flt a.x, .flt a.y, .flt a.z, .flt 0, .flt 0, .flt 0, .flt c.x, .flt c.y, .flt c.z] = some [.flt 0, .bool false] := by
 simp only [F301]
 rw [if_pos (.inr (.inl bad_0))]
attribute [local irreducible] tif tjoin IntKind.wrap il vl F220 F221 F580 F32 F17 F301 F231 F474 rvV meetN pathV restV ttP trX trY sinT fdiv i2f fadd fmul wide atP

theorem step581 {G : Told} (g474 : G 474 = F474) {t : Nat} (ht : t < 16) {vs : List V3} (hv : vs.length ≤ 10) {j : Nat} (hj : j < 3) (hx : ∀ y, fadd .f32 (fdiv .f32 (i2f .f32 (t : Int)) 1098907648) (fdiv .f32 (i2f .f32 (j : Int)) 1077936128) = y → y = ttP t j) :
  tbody 2 (S581L0 G (.flt (fdiv .f32 (i2f .f32 (t : Int)) 1098907648))) [vl vs, .int (j : Int)] = some (0, [vl (vs ++ [trV t j]), .int ((j + 1 : Nat) : Int)]) := by
 obtain ⟨c1, c2⟩ := turn_call ht hj
 refine tb rfl ?_
 unfold S581L0
 refine st_some (b_lss (decide_eq_true (by omega))) ?_
 refine st_ift ?_
 refine st_some b_i2f ?_
 refine st_some b_quo ?_
 refine st_some p_fadd ?_
 rw [hx _ rfl]
 refine st_some p_fadd ?_
 refine st_some (gcall_on g474 rfl c1 rfl) ?_
 refine st_some p_fmul ?_
 refine st_some (gcall_on g474 rfl c2 rfl) ?_
 refine st_some p_fmul ?_
 refine st_some p_agg ?_
 refine st_some p_lst ?_
 have ha : gev none .app [vl vs, .lst [.agg [.flt (fmul .f32 1073741824 (sinT (fadd .f32 (ttP t j) 1048576000))), .flt (fmul .f32 1073741824 (sinT (ttP t j))), .flt 0]]] = some (vl (vs ++ [trV t j])) := by
  have := app_w (l := vs) (v := trV t j) (by omega)
  with_unfolding_all exact this
 refine st_some ha ?_
 exact st_some (add1n (by omega)) rfl
theorem run581 {G : Told} (g17 : G 17 = F17) (g32 : G 32 = F32) (g220 : G 220 = F220) (g221 : G 221 = F221) (g231 : G 231 = F231) (g301 : G 301 = F301) (g474 : G 474 = F474) (g580 : G 580 = F580) : Runs G F581 T581 := by
 intro ds rs h
 unfold F581 at h
 split at h
 case h_2 => cases h
 rename_i a b
 obtain ⟨l, ha, h⟩ := Option.bind_eq_some_iff.1 h
 obtain ⟨m, hb, h⟩ := Option.bind_eq_some_iff.1 h
 split at h
 case isFalse => cases h
 rename_i hc
 obtain ⟨hl, hm⟩ := hc
 simp only [Option.some.injEq] at h
 subst h
 rw [dI_inv ha, dI_inv hb]
 have hL : gcall G none 220 [il l, il m] 1 = some [.bool (decide (l.length > 48) || decide (m.length > 48))] := gcall_on g220 rfl F220_m rfl
 cases hlong : (decide (l.length > 48) || decide (m.length > 48))
 case true =>
  rw [hlong] at hL;refine ⟨0, ?_⟩;rw [eq581];unfold S581;refine st_some hL ?_;exact st_ift rfl
 rw [hlong] at hL
 have v0 : gcall G none 580 [il l, .int 0] 3 = some (rvV l 0).ds := gcall_on g580 rfl (F580_m (k := 0) hl (by omega)) rfl
 have v3 : gcall G none 580 [il l, .int 3] 3 = some (rvV l 3).ds := gcall_on g580 rfl (F580_m (k := 3) hl (by omega)) rfl
 have v6 : gcall G none 580 [il l, .int 6] 3 = some (rvV l 6).ds := gcall_on g580 rfl (F580_m (k := 6) hl (by omega)) rfl
 have r0 : gcall G none 221 [il m, .int 0, .int 10] 1 = some [.int (atP m 0 10 : Nat)] := gcall_on g221 rfl (F221_m (k := 0) (n := 10) hm (by omega)) rfl
 have r1 : gcall G none 221 [il m, .int 1, .int 16] 1 = some [.int (atP m 1 16 : Nat)] := gcall_on g221 rfl (F221_m (k := 1) (n := 16) hm (by omega)) rfl
 have hn := atP_lt (l := m) (k := 0) (n := 10) (by omega)
 have ht := atP_lt (l := m) (k := 1) (n := 16) (by omega)
 generalize atP m 0 10 = n at *
 generalize atP m 1 16 = t at *
 have E0 := rv_end l 0; have E3 := rv_end l 3; have E6 := rv_end l 6
 have G0 := rv_good l 0; have G6 := rv_good l 6
 have hmeet := meets_ok E0 E3 E6 (start_near E0 E3 E6) n
 rw [show (((rvV l 0).add (rvV l 3)).add (rvV l 6)).scale 1051372203 = pzV l from rfl] at hmeet
 obtain ⟨t0, t1, t2, t3⟩ := turn_ok ht
 obtain ⟨g, s1, s2⟩ := same_ok l 0
 have k1 := F32_ok l (n := n) (by omega)
 have k2 := F32_ok l (n := n + 1) (by omega)
 generalize hp : meetN (rvV l 0) (rvV l 3) (rvV l 6) n (pzV l) = p at *
 generalize hq : meetN (rvV l 0) (rvV l 3) (rvV l 6) (n + 1) (pzV l) = q at *
 generalize rvV l 0 = a at *
 generalize rvV l 3 = b at *
 generalize rvV l 6 = c at *
 have hx : ∀ (j : Nat) y, fadd .f32 (fdiv .f32 (i2f .f32 (t : Int)) 1098907648) (fdiv .f32 (i2f .f32 (j : Int)) 1077936128) = y → y = ttP t j := fun j y h => by
  rw [← h]
  with_unfolding_all rfl
 refine ⟨4, ?_⟩
 rw [eq581]
 unfold S581
 refine st_some hL ?_
 refine st_iff ?_
 refine st_some v0 ?_
 refine st_some v3 ?_
 refine st_some v6 ?_
 refine st_some r0 ?_
 refine st_some (gcall_on g32 rfl k1 rfl) ?_
 refine st_some (add1n (by omega)) ?_
 refine st_some (gcall_on g32 rfl k2 rfl) ?_
 refine st_some p_bnot ?_
 refine sI ?_
 refine sN ?_
 refine sP ?_
 refine st_some (c_ff.trans (gcall_on g17 rfl (F17_ok q a b c) rfl)) ?_
 refine st_some (g_ff.trans w_wide) ?_
 refine st_some (c_ff.trans (gcall_on g17 rfl (F17_ok p a b c) rfl)) ?_
 refine st_some (g_ff.trans w_wide) ?_
 refine st_some (g_ff.trans w_fadd8) ?_
 refine st_some (g_ff.trans w_fgt8) ?_
 rw [hmeet]
 refine sP ?_
 refine st_iff ?_
 refine st_some r1 ?_
 refine st_some b_i2f ?_
 refine st_some b_quo ?_
 refine st_some (show gev none .mklst [] = some (vl []) by with_unfolding_all rfl) ?_
 refine st_join (ds := [vl [trV t 0, trV t 1, trV t 2], .int 3, .int 3, .bool false]) ?_ rfl ?_
 ·refine iter_go (step581 g474 ht (vs := []) (by simp) (j := 0) (by omega) (hx 0)) ?_
  refine iter_go (step581 g474 ht (vs := [trV t 0]) (by simp) (j := 1) (by omega) (hx 1)) ?_
  refine iter_go (step581 g474 ht (vs := [trV t 0, trV t 1]) (by simp) (j := 2) (by omega) (hx 2)) ?_
  refine iter_end (l := 0) (ds' := [vl [trV t 0, trV t 1, trV t 2], .int 3, .int 3, .bool false]) ?_ rfl;refine tb rfl ?_;unfold S581L0;refine st_some (b_lss (decide_eq_false (by decide))) ?_
  exact st_iff rfl
 have j0 : gev none .idx [vl [trV t 0, trV t 1, trV t 2], .int 0] = some (vec (trV t 0)) := idx_vl (i := 0) (by simp)
 have j1 : gev none .idx [vl [trV t 0, trV t 1, trV t 2], .int 1] = some (vec (trV t 1)) := idx_vl (i := 1) (by simp)
 have j2 : gev none .idx [vl [trV t 0, trV t 1, trV t 2], .int 2] = some (vec (trV t 2)) := idx_vl (i := 2) (by simp)
 refine st_some j0 ?_
 refine st_some j0 ?_
 refine st_some p_v0 ?_
 refine st_some p_v1 ?_
 refine st_some p_v2 ?_
 refine st_some j1 ?_
 refine st_some j1 ?_
 refine st_some p_v0 ?_
 refine st_some p_v1 ?_
 refine st_some p_v2 ?_
 refine st_some j2 ?_
 refine st_some j2 ?_
 refine st_some p_v0 ?_
 refine st_some p_v1 ?_
 refine st_some p_v2 ?_
 refine st_some (gcall_on g301 rfl (F301_ok t0 t1 t2) rfl) ?_
 refine st_some (gcall_on g301 rfl (F301_ok G0 G0 G0) rfl) ?_
 refine st_some (gcall_on g301 rfl (F301_no (a := a) (c := c)) rfl) ?_
 refine sT ?_
 refine sQ ?_
 refine sT ?_
 refine st_some (g_tt.trans p_bnot) ?_
 refine sQ ?_
 refine sT ?_
 refine st_some (g_tt.trans w_wide) ?_
 refine st_some (g_tt.trans w_flt8) ?_
 rw [t3]
 refine sQ ?_
 refine sT ?_
 refine st_some (g_tt.trans w_wide) ?_
 refine st_some (c_tt.trans (gcall_on g231 rfl s1 rfl)) ?_
 refine st_some (g_tt.trans w_flt8) ?_
 refine Eq.trans (congrArg (fun z => (gev none .pick [.bool true, .bool z, .bool false]).bind fun x75 => some (0, [x75])) s2) ?_
 refine sQ ?_
 rfl
end Vs
