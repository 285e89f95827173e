/-
  Thickness: the law.
-/
import Derived.Test.YtaakjnkllodchaaK52
import Derived.Test.YtaakjnkllodchaaK55
import Derived.Test.YtaakjnkllodchaaK59
set_option maxHeartbeats 4000000
namespace Vs
open Go Go.Sort Ieee
open Classical in
noncomputable def F574 : List D → Option (List D)
 | [a, b] => (dI a).bind fun l => (dI b).bind fun m => if bytes l ∧ bytes m then some [.bool true] else none
 | _ => none
def T574 : T :=
(cc 220 [0, 1] 1 <|
.ite 2
 (.out 0 [kT])
 (cc 221 [1, kI 0, kI 5] 1 <|
 cc 544 [3] 2 <|
 cc 543 [0, 4, 5] 2 <|
 cc 571 [6, 7, kF 1073741824] 3 <|
 cc 221 [1, kI 1, kI 9] 1 <|
 oo (.i2f .f32) [11] <|
 oo (.far .quo .f32) [12, kF 1090519040] <|
 cc 165 [6, 7, 13] 2 <|
 oo .bnot [10] <|
 oN 16 .id [15] <|
 oN 16 .bnot [17] <|
 oo .pick [16, kT, 18] <|
 .ite 19
  (.out 0 [kN])
  (.join 5
   (.loop [kI 0, kI 0]
    (oo .len [7] <|
    oo (.icm .lss) [21, 22] <|
    .ite 23
     (cc 163 [6, 7, 21] 2 <|
     cc 163 [8, 9, 21] 2 <|
     oo .bnot [25] <|
     oN 28 .id [27] <|
     oN 28 .bnot [29] <|
     oo .pick [28, kT, 30] <|
     oN 31 .id [24] <|
     oN 31 .id [26] <|
     cN 31 566 [32, 33] 1 <|
     oN 31 .bnot [34] <|
     oo .pick [31, kT, 35] <|
     oN 36 .id [24] <|
     oN 36 (.f2f .f32 .f64) [37] <|
     oN 36 (.fcm .gtr .f64) [38, kF 4607186922399644778] <|
     oo .pick [36, kT, 39] <|
     .ite 40
      (.out 2 [kN])
      (oo (.fcm .lss .f32) [24, 13] <|
      .join 1
       (.ite 41
        (cc 573 [14, 21] 1 <|
        oo .bnot [42] <|
        .ite 43
         (.out 3 [kN])
         (oo (.iar .add .i64) [20, kI 1] <|
         .out 0 [44]))
        (.out 0 [20]))
      (oo (.iar .add .i64) [21, kI 1] <|
      .out 0 [42, 43])))
     (.out 1 [20, 21, 21, 22, 23])))
  (oo .len [7] <|
  cc 221 [1, kI 2, 25] 1 <|
  cc 531 [6, 7, 26] 3 <|
  cc 170 [6, 7] 3 <|
  oo .mklst [] <|
  oo .app [33, 6] <|
  oo .mkagg [kF 1091567616, kF 0, kF 0] <|
  oo .mklst [35] <|
  oo .app [34, 36] <|
  cc 170 [37, 7] 3 <|
  oT 29 .id [32] <|
  oo .pick [29, 41, kN] <|
  oT 42 .id [40] <|
  oo .pick [42, 43, kN] <|
  oT 44 .id [20] <|
  oT 44 .len [14] <|
  oT 44 (.icm .eql) [45, 46] <|
  oo .pick [44, 47, kN] <|
  oT 48 .len [28] <|
  oT 48 .len [7] <|
  oT 48 (.iar .sub .i64) [50, kI 1] <|
  oT 48 (.icm .eql) [49, 51] <|
  oo .pick [48, 52, kN] <|
  cT 53 563 [30, 31, 6, 7] 1 <|
  oo .pick [53, 54, kN] <|
  cT 55 563 [38, 39, 6, 7] 1 <|
  oo .pick [55, 56, kN] <|
  cT 57 480 [6, 7, 8, 9] 1 <|
  oo .pick [57, 58, kN] <|
  cT 59 480 [6, 7, 27, 28] 1 <|
  oT 59 .bnot [60] <|
  oo .pick [59, 61, kN] <|
  .out 0 [62]))))
def S574L0 (G : Told) (e6 : List D) (e8 : List D) (x13 : D) (e14 : List D) : List D → Option (Nat × List D) := fun e20 =>
     (gev none .len [e6.getD 1 .undef]).bind fun x22 =>
     (gev none (.icm .lss) [e20.getD 1 .undef, x22]).bind fun x23 =>
     tif x23 (
      (gcall G none 163 [e6.getD 0 .undef, e6.getD 1 .undef, e20.getD 1 .undef] 2).bind fun e24 =>
      (gcall G none 163 [e8.getD 0 .undef, e8.getD 1 .undef, e20.getD 1 .undef] 2).bind fun e26 =>
      (gev none .bnot [e24.getD 1 .undef]).bind fun x28 =>
      (gev (some (x28, false)) .id [e26.getD 1 .undef]).bind fun x29 =>
      (gev (some (x28, false)) .bnot [x29]).bind fun x30 =>
      (gev none .pick [x28, .bool true, x30]).bind fun x31 =>
      (gev (some (x31, false)) .id [e24.getD 0 .undef]).bind fun x32 =>
      (gev (some (x31, false)) .id [e26.getD 0 .undef]).bind fun x33 =>
      (gcall G (some (x31, false)) 566 [x32, x33] 1).bind fun e34 =>
      (gev (some (x31, false)) .bnot [e34.getD 0 .undef]).bind fun x35 =>
      (gev none .pick [x31, .bool true, x35]).bind fun x36 =>
      (gev (some (x36, false)) .id [e24.getD 0 .undef]).bind fun x37 =>
      (gev (some (x36, false)) (.f2f .f32 .f64) [x37]).bind fun x38 =>
      (gev (some (x36, false)) (.fcm .gtr .f64) [x38, .flt 4607186922399644778]).bind fun x39 =>
      (gev none .pick [x36, .bool true, x39]).bind fun x40 =>
      tif x40 (
       some (2, [.bool false])) (
       (gev none (.fcm .lss .f32) [e24.getD 0 .undef, x13]).bind fun x41 =>
       tjoin 1 (
        tif x41 (
         (gcall G none 573 [e14.getD 0 .undef, e20.getD 1 .undef] 1).bind fun e42 =>
         (gev none .bnot [e42.getD 0 .undef]).bind fun x43 =>
         tif x43 (
          some (3, [.bool false])) (
          (gev none (.iar .add .i64) [e20.getD 0 .undef, .int 1]).bind fun x44 =>
          some (0, [x44]))) (
         some (0, [e20.getD 0 .undef]))) fun e42 =>
       (gev none (.iar .add .i64) [e20.getD 1 .undef, .int 1]).bind fun x43 =>
       some (0, [e42.getD 0 .undef, x43]))) (
      some (1, [e20.getD 0 .undef, e20.getD 1 .undef, e20.getD 1 .undef, x22, x23]))
def S574 (G : Told) (fuel : Nat) (x0 x1 : D) : Option (Nat × List D) :=
 (gcall G none 220 [x0, x1] 1).bind fun e2 =>
 tif (e2.getD 0 .undef) (
  some (0, [.bool true])) (
  (gcall G none 221 [x1, .int 0, .int 5] 1).bind fun e3 =>
  (gcall G none 544 [e3.getD 0 .undef] 2).bind fun e4 =>
  (gcall G none 543 [x0, e4.getD 0 .undef, e4.getD 1 .undef] 2).bind fun e6 =>
  (gcall G none 571 [e6.getD 0 .undef, e6.getD 1 .undef, .flt 1073741824] 3).bind fun e8 =>
  (gcall G none 221 [x1, .int 1, .int 9] 1).bind fun e11 =>
  (gev none (.i2f .f32) [e11.getD 0 .undef]).bind fun x12 =>
  (gev none (.far .quo .f32) [x12, .flt 1090519040]).bind fun x13 =>
  (gcall G none 165 [e6.getD 0 .undef, e6.getD 1 .undef, x13] 2).bind fun e14 =>
  (gev none .bnot [e8.getD 2 .undef]).bind fun x16 =>
  (gev (some (x16, false)) .id [e14.getD 1 .undef]).bind fun x17 =>
  (gev (some (x16, false)) .bnot [x17]).bind fun x18 =>
  (gev none .pick [x16, .bool true, x18]).bind fun x19 =>
  tif x19 (
   some (0, [.bool false])) (
   tjoin 5 (
    iter (tbody 2 (S574L0 G e6 e8 x13 e14)) fuel [.int 0, .int 0]) fun e20 =>
   (gev none .len [e6.getD 1 .undef]).bind fun x25 =>
   (gcall G none 221 [x1, .int 2, x25] 1).bind fun e26 =>
   (gcall G none 531 [e6.getD 0 .undef, e6.getD 1 .undef, e26.getD 0 .undef] 3).bind fun e27 =>
   (gcall G none 170 [e6.getD 0 .undef, e6.getD 1 .undef] 3).bind fun e30 =>
   (gev none .mklst []).bind fun x33 =>
   (gev none .app [x33, e6.getD 0 .undef]).bind fun x34 =>
   (gev none .mkagg [.flt 1091567616, .flt 0, .flt 0]).bind fun x35 =>
   (gev none .mklst [x35]).bind fun x36 =>
   (gev none .app [x34, x36]).bind fun x37 =>
   (gcall G none 170 [x37, e6.getD 1 .undef] 3).bind fun e38 =>
   (gev (some ((e27.getD 2 .undef), true)) .id [e30.getD 2 .undef]).bind fun x41 =>
   (gev none .pick [e27.getD 2 .undef, x41, .bool false]).bind fun x42 =>
   (gev (some (x42, true)) .id [e38.getD 2 .undef]).bind fun x43 =>
   (gev none .pick [x42, x43, .bool false]).bind fun x44 =>
   (gev (some (x44, true)) .id [e20.getD 0 .undef]).bind fun x45 =>
   (gev (some (x44, true)) .len [e14.getD 0 .undef]).bind fun x46 =>
   (gev (some (x44, true)) (.icm .eql) [x45, x46]).bind fun x47 =>
   (gev none .pick [x44, x47, .bool false]).bind fun x48 =>
   (gev (some (x48, true)) .len [e27.getD 1 .undef]).bind fun x49 =>
   (gev (some (x48, true)) .len [e6.getD 1 .undef]).bind fun x50 =>
   (gev (some (x48, true)) (.iar .sub .i64) [x50, .int 1]).bind fun x51 =>
   (gev (some (x48, true)) (.icm .eql) [x49, x51]).bind fun x52 =>
   (gev none .pick [x48, x52, .bool false]).bind fun x53 =>
   (gcall G (some (x53, true)) 563 [e30.getD 0 .undef, e30.getD 1 .undef, e6.getD 0 .undef, e6.getD 1 .undef] 1).bind fun e54 =>
   (gev none .pick [x53, e54.getD 0 .undef, .bool false]).bind fun x55 =>
   (gcall G (some (x55, true)) 563 [e38.getD 0 .undef, e38.getD 1 .undef, e6.getD 0 .undef, e6.getD 1 .undef] 1).bind fun e56 =>
   (gev none .pick [x55, e56.getD 0 .undef, .bool false]).bind fun x57 =>
   (gcall G (some (x57, true)) 480 [e6.getD 0 .undef, e6.getD 1 .undef, e8.getD 0 .undef, e8.getD 1 .undef] 1).bind fun e58 =>
   (gev none .pick [x57, e58.getD 0 .undef, .bool false]).bind fun x59 =>
   (gcall G (some (x59, true)) 480 [e6.getD 0 .undef, e6.getD 1 .undef, e27.getD 0 .undef, e27.getD 1 .undef] 1).bind fun e60 =>
   (gev (some (x59, true)) .bnot [e60.getD 0 .undef]).bind fun x61 =>
   (gev none .pick [x59, x61, .bool false]).bind fun x62 =>
   some (0, [x62])))
theorem eq574 {G fuel} (x0 x1) : run G fuel T574 [x0, x1] = S574 G fuel x0 x1 := by rw [run_eq]; kernel_rfl
theorem p_i2f0 {x : Int} : gev none (.i2f .f32) [.int x] = some (.flt (i2f .f32 x)) := rfl
theorem p_fdiv0 {x y : Nat} : gev none (.far .quo .f32) [.flt x, .flt y] = some (.flt (fdiv .f32 x y)) := rfl
theorem p_fgt8 {x y : Nat} : gev none (.fcm .gtr .f64) [.flt x, .flt y] = some (.bool (fgt .f64 x y)) := rfl
theorem app_v1 {l : List V3} {v : V3} (h : l.length < 1048576) : gev none .app [vl l, .lst [vec v]] = some (vl (l ++ [v])) := by
 have := app_vls (l := l) (m := [v]) (by simp; omega)
 exact this
theorem totL_al6 {ts : List (List Int)} (h : ∀ u ∈ ts, u.length = 3) : totL ts = 3 * ts.length := by
 unfold totL
 induction ts with
 | nil => rfl
 | cons t ts ih =>
  rw [List.map_cons, List.sum_cons, ih (fun u hu => h u (List.mem_cons_of_mem _ hu)), h t List.mem_cons_self, List.length_cons]
  omega
attribute [local irreducible] tif tjoin IntKind.wrap il tl vl F220 F221 F543 F544 F163 F165 F531 F170 F563 F480 F571 F566 F573 formV formT mvA validP thk thinN sclA fdiv holL

theorem loop574 {G : Told} (g163 : G 163 = F163) (g566 : G 566 = F566) (g573 : G 573 = F573) {vs us : List V3} {ts : List (List Int)} {k : Nat} (hv : validP vs.length ts = true) (hu : validP us.length ts = true) (h64 : ts.length ≤ 128)
  (h1 : szM vs ts ≤ 1048576) (h2 : szM us ts ≤ 1048576) (hk : ∀ i, i < ts.length → thk us ts i = thk vs ts i ∧ (rk .f32 (thk vs ts i) < inf .f32 ∨ feq .f32 (thk vs ts i) (thk vs ts i) = false) ∧ fgt .f64 (wide (thk vs ts i)) 4607186922399644778 = false) :
  iter (tbody 2 (S574L0 G [vl vs, tl ts] [vl us, tl ts, .bool true] (.flt k) [il (thinN vs ts k ts.length), .bool true])) (ts.length + 1) [.int 0, .int 0] =
   some (0, [.int ((thinN vs ts k ts.length).length : Int), .int (ts.length : Int), .int (ts.length : Int), .int (ts.length : Int), .bool false]) := by
 have e0 : thinN vs ts k 0 = [] := by with_unfolding_all rfl
 have hz := iter_upto (body := tbody 2 (S574L0 G [vl vs, tl ts] [vl us, tl ts, .bool true] (.flt k) [il (thinN vs ts k ts.length), .bool true])) (n := ts.length) (l := 0)
  (ds := [.int ((thinN vs ts k ts.length).length : Int), .int (ts.length : Int), .int (ts.length : Int), .int (ts.length : Int), .bool false]) (fun i => [.int ((thinN vs ts k i).length : Int), .int (i : Int)]) ?_ ?_
 ·simpa [e0] using hz
 ·intro i hi
  obtain ⟨k1, k2, k3⟩ := hk i hi;have hir : inr (ts.length : Int) (i : Int) = true := inr_iff'.2 ⟨by omega, by omega⟩
  have f1 := F163_m (i := (i : Int)) h1;rw [hv, hir, Bool.and_self, if_pos rfl, Int.toNat_natCast] at f1;have f2 := F163_m (i := (i : Int)) h2;rw [hu, hir, Bool.and_self, if_pos rfl, Int.toNat_natCast, k1] at f2;have f3 : F566 [.flt (thk vs ts i), .flt (thk vs ts i)] = some [.bool true] := by
   rcases k2 with h | h
   ·exact F566_m h
   ·exact F566_nan h
  have hst : thinN vs ts k (i + 1) = if flt .f32 (thk vs ts i) k = true then thinN vs ts k i ++ [(i : Int)] else thinN vs ts k i := by with_unfolding_all rfl
  have hl := thinN_len vs ts k i;refine tb rfl ?_;unfold S574L0;refine st_some len_tl ?_;refine st_some (lss_t (by omega)) ?_
  refine st_ift ?_;refine st_some (gcall_on g163 rfl f1 rfl) ?_;refine st_some (gcall_on g163 rfl f2 rfl) ?_;refine st_some p_bnot ?_;refine st_some (g_ff.trans p_id) ?_;refine st_some (g_ff.trans p_bnot) ?_;refine st_some p_pf ?_;refine st_some (g_ff.trans p_id) ?_;refine st_some (g_ff.trans p_id) ?_;refine st_some (c_ff.trans (gcall_on g566 rfl f3 rfl)) ?_;refine st_some (g_ff.trans p_bnot) ?_;refine st_some p_pf ?_;refine st_some (g_ff.trans p_id) ?_;refine st_some (g_ff.trans p_wide) ?_;refine st_some (g_ff.trans p_fgt8) ?_;rw [k3];refine st_some p_pf ?_;refine st_iff ?_;refine st_some p_flss ?_;rw [hst]
  cases hc : flt .f32 (thk vs ts i) k
  ·refine st_join (ds := [.int ((thinN vs ts k i).length : Int)]) (st_iff rfl) rfl ?_
   rw [if_neg (by simp)]
   exact st_some (add1n (by omega)) rfl
  ·have hm := thin_mem hc ts.length hi
   have hlen := thinN_len vs ts k ts.length;have f4 : F573 [il (thinN vs ts k ts.length), .int (i : Int)] = some [.bool true] := by
    have := F573_m (l := thinN vs ts k ts.length) (n := (i : Int)) (by omega)
    rw [List.contains_iff_mem.2 hm] at this;exact this
   rw [if_pos rfl, List.length_append];refine st_join (ds := [.int (((thinN vs ts k i).length + 1 : Nat) : Int)]) ?_ rfl ?_
   ·refine st_ift ?_
    refine st_some (gcall_on g573 rfl f4 rfl) ?_;refine st_some p_bnot ?_;refine st_iff ?_;exact st_some (add1n (by omega)) rfl
   ·exact st_some (add1n (by omega)) rfl
 ·refine tb rfl ?_
  unfold S574L0;refine st_some len_tl ?_;refine st_some (lss_f (by omega)) ?_
  exact st_iff rfl
theorem run574 {G : Told} (g163 : G 163 = F163) (g165 : G 165 = F165) (g170 : G 170 = F170) (g220 : G 220 = F220) (g221 : G 221 = F221) (g480 : G 480 = F480) (g531 : G 531 = F531) (g543 : G 543 = F543) (g544 : G 544 = F544) (g563 : G 563 = F563) (g566 : G 566 = F566) (g571 : G 571 = F571) (g573 : G 573 = F573) :
  ∀ ds rs, F574 ds = some rs → ∃ fuel, run G fuel T574 ds = some (0, rs) := by
 intro ds rs h
 unfold F574 at h
 split at h
 case h_2 => cases h
 rename_i x y
 obtain ⟨l, ha, h⟩ := Option.bind_eq_some_iff.1 h
 obtain ⟨m, hb, h⟩ := Option.bind_eq_some_iff.1 h
 rw [dI_inv ha, dI_inv hb]
 split at h
 case isFalse => cases h
 rename_i hc
 simp only [Option.some.injEq] at h
 subst h
 clear ha hb
 obtain ⟨hl, hm⟩ := hc
 have hL : gcall G none 220 [il l, il m] 1 = _ := gcall_on g220 rfl F220_m rfl
 cases hlong : (decide (l.length > 48) || decide (m.length > 48))
 case true =>
  rw [hlong] at hL;refine ⟨0, ?_⟩;rw [eq574];unfold S574;refine st_some hL ?_;exact st_ift rfl
 rw [hlong] at hL
 have b0 := atP_lt (l := m) (k := 0) (n := 5) (by omega)
 have c0 : gcall G none 221 [il m, .int 0, .int 5] 1 = some [.int (atP m 0 5 : Nat)] := gcall_on g221 rfl (F221_m (k := 0) (n := 5) hm (by omega)) rfl
 have c1 : gcall G none 221 [il m, .int 1, .int 9] 1 = some [.int (atP m 1 9 : Nat)] := gcall_on g221 rfl (F221_m (k := 1) (n := 9) hm (by omega)) rfl
 generalize atP m 0 5 = k at b0 c0
 generalize atP m 1 9 = a at c1
 have hF : F544 [.int (k : Int)] = some [vl (formV k), tl (formT k)] := by
  have e : F544 [.int (k : Int)] = if 0 ≤ (k : Int) ∧ (k : Int) ≤ 4 then some [vl (formV (k : Int).toNat), tl (formT (k : Int).toNat)] else none := by with_unfolding_all rfl
  rw [e, if_pos ⟨by omega, by omega⟩, Int.toNat_natCast]
 have hsz0 := szF k
 have c4 : gcall G none 543 [il l, vl (formV k), tl (formT k)] 2 = some [vl (mvA l (formV k)), tl (formT k)] := gcall_on g543 rfl (F543_m hl (show szM _ _ ≤ 1048576 by unfold szM; omega) (by omega)) rfl
 have hlen : (mvA l (formV k)).length = (formV k).length := by with_unfolding_all exact mvN_len l (formV k) _
 have hok := form_ok k
 have hus := form_used' b0
 have h8 := form_8 ⟨k, b0⟩
 simp only at h8
 rw [← hlen] at hok hus h8
 have hg := mv_g hl k
 have hszv : szM (mvA l (formV k)) (formT k) ≤ 1000 := by unfold szM; omega
 generalize mvA l (formV k) = vs at *
 generalize formT k = ts at *
 simp only [formOk, Bool.and_eq_true, decide_eq_true_eq] at hok
 have hv := hok.1.1
 have hsl : (sclA 1073741824 vs).length = vs.length := sclA_len _ _
 have hszs : szM (sclA 1073741824 vs) ts ≤ 1000 := by unfold szM at hszv ⊢; omega
 have hvs : validP (sclA 1073741824 vs).length ts = true := by rw [hsl]; exact hv
 obtain ⟨_, h128⟩ := valid_len hv
 have hfin : ∀ v ∈ vs, finV v := fun v hm => by obtain ⟨_, q1, q2, q3⟩ := hg v hm;exact ⟨fin_of q1 (by decide), fin_of q2 (by decide), fin_of q3 (by decide)⟩
 have c5 : gcall G none 571 [vl vs, tl ts, .flt 1073741824] 3 = some [vl (sclA 1073741824 vs), tl ts, .bool true] := gcall_on g571 rfl (by
  have e := F572_m (vs := vs) (ts := ts) (k := 1073741824) (by omega)
  rw [hv, if_pos rfl] at e
  with_unfolding_all exact e) rfl
 have c6 : ∀ q : Nat, gcall G none 165 [vl vs, tl ts, .flt q] 2 = some [il (thinN vs ts q ts.length), .bool true] := fun q => gcall_on g165 rfl (by rw [F165_m (by omega), hv, if_pos rfl]) rfl
 have hlp := loop574 g163 g566 g573 (k := fdiv .f32 (i2f .f32 (a : Int)) 1090519040) hv hvs h128 (by omega) (by omega) (fun i hi => thk_two hv hg hi)
 have hj := atP_lt (l := m) (k := 2) (n := ts.length) (by omega)
 have c7 : gcall G none 221 [il m, .int 2, .int (ts.length : Int)] 1 = some [.int (atP m 2 ts.length : Nat)] := gcall_on g221 rfl (F221_m (k := 2) (n := ts.length) hm (by omega)) rfl
 generalize atP m 2 ts.length = j at hj c7
 obtain ⟨hhv, hhl⟩ := valid_hole hv hj
 have c8 : gcall G none 531 [vl vs, tl ts, .int (j : Int)] 3 = some [vl vs, tl (holL ts j), .bool true] := gcall_on g531 rfl (by
  rw [F531_m (by omega)]
  unfold cutP
  rw [hv, show inr (ts.length : Int) (j : Int) = true from inr_iff'.2 ⟨by omega, by omega⟩, Bool.and_self, if_pos rfl, Int.toNat_natCast]) rfl
 obtain ⟨d1, d2⟩ := drop_same hv hus
 have c9 : gcall G none 170 [vl vs, tl ts] 3 = some [vl vs, tl ts, .bool true] := gcall_on g170 rfl (by rw [F170_m (by omega), hv, if_pos rfl, d1, d2]) rfl
 obtain ⟨d3, d4⟩ := drop_longer (v := ⟨1091567616, 0, 0⟩) hv hus
 have hll : (vs ++ [(⟨1091567616, 0, 0⟩ : V3)]).length = vs.length + 1 := by simp
 have c10 : gcall G none 170 [vl (vs ++ [⟨1091567616, 0, 0⟩]), tl ts] 3 = some [vl vs, tl ts, .bool true] := gcall_on g170 rfl (by
  rw [F170_m (by unfold szM at hszv ⊢; omega), hll, valid_longer hv h8.2, if_pos rfl, d3, d4]) rfl
 have c11 : gcall G none 563 [vl vs, tl ts, vl vs, tl ts] 1 = some [.bool true] := gcall_on g563 rfl (F563_m (by omega) hfin) rfl
 have c12 : gcall G none 480 [vl vs, tl ts, vl (sclA 1073741824 vs), tl ts] 1 = some [.bool true] := gcall_on g480 rfl (by
  rw [F480_g hsl (.inl rfl) (by omega) (by omega) hv hvs, decide_eq_true rfl]) rfl
 have c13 : gcall G none 480 [vl vs, tl ts, vl vs, tl (holL ts j)] 1 = some [.bool false] := gcall_on g480 rfl (by
  have htot : szM vs (holL ts j) ≤ 1000000 := by have t1 := totL_al6 (tri3 hhv);unfold szM at hszv ⊢;omega
  rw [F480_g rfl (.inr (by omega)) (by omega) htot hv hhv, decide_eq_false (fun e => by have := congrArg List.length e; omega)]) rfl
 have a1 : gev none .app [.lst [], vl vs] = some (vl vs) := by
  have := app_vls (l := []) (m := vs) (by simp; unfold szM at hszv; omega)
  rw [List.nil_append, vl_nil] at this;exact this
 have a2 : gev none .app [vl vs, .lst [.agg [.flt 1091567616, .flt 0, .flt 0]]] = some (vl (vs ++ [⟨1091567616, 0, 0⟩])) := app_v1 (v := ⟨1091567616, 0, 0⟩) (by unfold szM at hszv; omega)
 refine ⟨ts.length + 1, ?_⟩
 rw [eq574]
 unfold S574
 refine st_some hL ?_
 refine st_iff ?_
 refine st_some c0 ?_
 refine st_some (gcall_on g544 rfl hF rfl) ?_
 refine st_some c4 ?_
 refine st_some c5 ?_
 refine st_some c1 ?_
 refine st_some p_i2f0 ?_
 refine st_some p_fdiv0 ?_
 refine st_some (c6 _) ?_
 refine st_some p_bnot ?_
 refine st_some (g_ff.trans p_id) ?_
 refine st_some (g_ff.trans p_bnot) ?_
 refine st_some p_pf ?_
 refine st_iff ?_
 refine st_join hlp rfl ?_
 refine st_some len_tl ?_
 refine st_some c7 ?_
 refine st_some c8 ?_
 refine st_some c9 ?_
 refine st_some p_lst ?_
 refine st_some a1 ?_
 refine st_some p_agg ?_
 refine st_some p_lst ?_
 refine st_some a2 ?_
 refine st_some c10 ?_
 refine st_some (g_tt.trans p_id) ?_
 refine st_some p_pt ?_
 refine st_some (g_tt.trans p_id) ?_
 refine st_some p_pt ?_
 refine st_some (g_tt.trans p_id) ?_
 refine st_some (g_tt.trans len_il) ?_
 refine st_some (g_tt.trans eql_self) ?_
 refine st_some p_pt ?_
 refine st_some (g_tt.trans len_tl) ?_
 refine st_some (g_tt.trans len_tl) ?_
 have hsub : gev none (.iar .sub .i64) [.int (ts.length : Int), .int 1] = some (.int ((ts.length - 1 : Nat) : Int)) := by
  rw [p_sub, wrap_id (by omega) (by omega)]
  congr 2
  omega
 refine st_some (g_tt.trans hsub) ?_
 rw [hhl]
 refine st_some (g_tt.trans eql_self) ?_
 refine st_some p_pt ?_
 refine st_some (c_tt.trans c11) ?_
 refine st_some p_pt ?_
 refine st_some (c_tt.trans c11) ?_
 refine st_some p_pt ?_
 refine st_some (c_tt.trans c12) ?_
 refine st_some p_pt ?_
 refine st_some (c_tt.trans c13) ?_
 refine st_some (g_tt.trans p_bnot) ?_
 refine st_some p_pt ?_
 rfl
end Vs
