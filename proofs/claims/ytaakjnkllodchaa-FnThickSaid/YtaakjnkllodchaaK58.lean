/-
  A mesh that is scaled; whether a number is in a list.
-/
import Derived.Test.YtaakjnkllodchaaK9
import Derived.Test.YtaakjnkllodchaaK46
import Derived.Test.YtaakjnkllodchaaKq3
set_option maxHeartbeats 4000000
namespace Vs
open Go
def sclN (k : Nat) (vs : List V3) : Nat → List V3
 | 0 => vs
 | i + 1 => (sclN k vs i).set i (V3.scale ((sclN k vs i).getD i ⟨0, 0, 0⟩) k)
theorem sclN_len (k : Nat) (vs : List V3) : ∀ i, (sclN k vs i).length = vs.length
 | 0 => rfl
 | i + 1 => by rw [sclN, List.length_set, sclN_len]
theorem sclN_get (k : Nat) (vs : List V3) : ∀ i j, (sclN k vs i).getD j ⟨0, 0, 0⟩ = if j < i ∧ j < vs.length then V3.scale (vs.getD j ⟨0, 0, 0⟩) k else vs.getD j ⟨0, 0, 0⟩
 | 0, j => by simp [sclN]
 | i + 1, j => by
  rw [sclN, List.getD_eq_getElem?_getD, List.getElem?_set]
  by_cases h : i = j
  ·subst h
   rw [if_pos rfl, sclN_len]
   by_cases hl : i < vs.length
   ·rw [if_pos hl, if_pos ⟨by omega, hl⟩, Option.getD_some, sclN_get k vs i i, if_neg (by omega)]
   ·rw [if_neg hl, if_neg (by omega)]
    simp only [Option.getD_none];rw [List.getD_eq_getElem?_getD, List.getElem?_eq_none (by omega)]
    rfl
  ·rw [if_neg h, ← List.getD_eq_getElem?_getD, sclN_get k vs i j]
   by_cases hc : j < i ∧ j < vs.length
   ·rw [if_pos hc, if_pos ⟨by omega, hc.2⟩]
   ·rw [if_neg hc, if_neg (by omega)]
def sclA (k : Nat) (vs : List V3) : List V3 := sclN k vs vs.length
theorem sclA_len (k : Nat) (vs : List V3) : (sclA k vs).length = vs.length := sclN_len k vs _
theorem sclA_get {k : Nat} {vs : List V3} {j : Nat} (h : j < vs.length) : (sclA k vs).getD j ⟨0, 0, 0⟩ = V3.scale (vs.getD j ⟨0, 0, 0⟩) k := by
 unfold sclA
 rw [sclN_get, if_pos ⟨h, h⟩]
def F570 : List D → Option (List D) | [.flt x, .flt y, .flt z, .flt k] => some [.flt (fmul .f32 x k), .flt (fmul .f32 y k), .flt (fmul .f32 z k)] | _ => none
noncomputable def F572 : List D → Option (List D)
 | [a, b, .flt k] => (dV a).bind fun vs => (dT b).bind fun ts => if szM vs ts ≤ 1048576 then some (if validP vs.length ts = true then [vl (sclA k vs), tl ts, .bool true] else [vl [], tl [], .bool false]) else none
 | _ => none
noncomputable def F571 : List D → Option (List D) := F572
theorem F572_m {vs : List V3} {ts : List (List Int)} {k : Nat} (h : szM vs ts ≤ 1048576) : F572 [vl vs, tl ts, .flt k] = some (if validP vs.length ts = true then [vl (sclA k vs), tl ts, .bool true] else [vl [], tl [], .bool false]) := by
 simp only [F572, dV_vl, dT_tl, Option.bind_some]
 rw [if_pos h]
noncomputable def F573 : List D → Option (List D)
 | [a, .int n] => (dI a).bind fun l => if l.length ≤ 1000000 then some [.bool (l.contains n)] else none
 | _ => none
theorem F573_m {l : List Int} {n : Int} (h : l.length ≤ 1000000) : F573 [il l, .int n] = some [.bool (l.contains n)] := by
 simp only [F573, dI_il, Option.bind_some]
 rw [if_pos h]
def T570 : T :=
(cc 31 [0, 1, 2, 3] 3 <|
.out 0 [4, 5, 6])
def S570 (G : Told) (_fuel : Nat) (x0 x1 x2 x3 : D) : Option (Nat × List D) :=
 (gcall G none 31 [x0, x1, x2, x3] 3).bind fun e4 =>
 some (0, [e4.getD 0 .undef, e4.getD 1 .undef, e4.getD 2 .undef])
theorem eq570 {G fuel} (x0 x1 x2 x3) : run G fuel T570 [x0, x1, x2, x3] = S570 G fuel x0 x1 x2 x3 := by rw [run_eq]; kernel_rfl
def T572 : T :=
(cc 150 [0, 1] 1 <|
oo .bnot [3] <|
.ite 4
 (.out 0 [kL, kL, kN])
 (cc 151 [0, 1] 2 <|
 oo .len [5] <|
 .join 3
  (.loop [5, kI 0]
   (oo (.icm .lss) [9, 7] <|
   .ite 10
    (oo .idx [8, 9] <|
    oo .idx [8, 9] <|
    oo (.proj 0) [12] <|
    oo (.proj 1) [12] <|
    oo (.proj 2) [12] <|
    cc 570 [13, 14, 15, 2] 3 <|
    oo .idx [8, 9] <|
    oo .mkagg [16, 17, 18] <|
    oo .set [8, 9, 20] <|
    oo (.iar .add .i64) [9, kI 1] <|
    .out 0 [21, 22])
    (.out 1 [8, 9, 10])))
 (.out 0 [8, 6, kT])))
def S572L0 (G : Told) (x2 : D) (x7 : D) : List D → Option (Nat × List D) := fun e8 =>
    (gev none (.icm .lss) [e8.getD 1 .undef, x7]).bind fun x10 =>
    tif x10 (
     (gev none .idx [e8.getD 0 .undef, e8.getD 1 .undef]).bind fun _x11 =>
     (gev none .idx [e8.getD 0 .undef, e8.getD 1 .undef]).bind fun x12 =>
     (gev none (.proj 0) [x12]).bind fun x13 =>
     (gev none (.proj 1) [x12]).bind fun x14 =>
     (gev none (.proj 2) [x12]).bind fun x15 =>
     (gcall G none 570 [x13, x14, x15, x2] 3).bind fun e16 =>
     (gev none .idx [e8.getD 0 .undef, e8.getD 1 .undef]).bind fun _x19 =>
     (gev none .mkagg [e16.getD 0 .undef, e16.getD 1 .undef, e16.getD 2 .undef]).bind fun x20 =>
     (gev none .set [e8.getD 0 .undef, e8.getD 1 .undef, x20]).bind fun x21 =>
     (gev none (.iar .add .i64) [e8.getD 1 .undef, .int 1]).bind fun x22 =>
     some (0, [x21, x22])) (
     some (1, [e8.getD 0 .undef, e8.getD 1 .undef, x10]))
def S572 (G : Told) (fuel : Nat) (x0 x1 x2 : D) : Option (Nat × List D) :=
 (gcall G none 150 [x0, x1] 1).bind fun e3 =>
 (gev none .bnot [e3.getD 0 .undef]).bind fun x4 =>
 tif x4 (
  some (0, [(.lst []), (.lst []), (.bool false)])) (
  (gcall G none 151 [x0, x1] 2).bind fun e5 =>
  (gev none .len [e5.getD 0 .undef]).bind fun x7 =>
  tjoin 3 (
   iter (tbody 2 (S572L0 G x2 x7)) fuel [e5.getD 0 .undef, .int 0]) fun e8 =>
  some (0, [e8.getD 0 .undef, e5.getD 1 .undef, .bool true]))
theorem eq572 {G fuel} (x0 x1 x2) : run G fuel T572 [x0, x1, x2] = S572 G fuel x0 x1 x2 := by rw [run_eq]; kernel_rfl
def T571 : T :=
(cc 572 [0, 1, 2] 3 <|
.out 0 [3, 4, 5])
def S571 (G : Told) (_fuel : Nat) (x0 x1 x2 : D) : Option (Nat × List D) :=
 (gcall G none 572 [x0, x1, x2] 3).bind fun e3 =>
 some (0, [e3.getD 0 .undef, e3.getD 1 .undef, e3.getD 2 .undef])
theorem eq571 {G fuel} (x0 x1 x2) : run G fuel T571 [x0, x1, x2] = S571 G fuel x0 x1 x2 := by rw [run_eq]; kernel_rfl
def T573 : T :=
(.join 4
 (.loop [kI 0]
  (oo .len [0] <|
  oo (.icm .lss) [2, 3] <|
  .ite 4
   (oo .idx [0, 2] <|
   oo (.icm .eql) [5, 1] <|
   .ite 6
    (.out 2 [kT])
    (oo (.iar .add .i64) [2, kI 1] <|
    .out 0 [7]))
   (.out 1 [2, 2, 3, 4])))
(.out 0 [kN]))
def S573L0 (_G : Told) (x0 : D) (x1 : D) : List D → Option (Nat × List D) := fun e2 =>
   (gev none .len [x0]).bind fun x3 =>
   (gev none (.icm .lss) [e2.getD 0 .undef, x3]).bind fun x4 =>
   tif x4 (
    (gev none .idx [x0, e2.getD 0 .undef]).bind fun x5 =>
    (gev none (.icm .eql) [x5, x1]).bind fun x6 =>
    tif x6 (
     some (2, [.bool true])) (
     (gev none (.iar .add .i64) [e2.getD 0 .undef, .int 1]).bind fun x7 =>
     some (0, [x7]))) (
    some (1, [e2.getD 0 .undef, e2.getD 0 .undef, x3, x4]))
def S573 (G : Told) (fuel : Nat) (x0 x1 : D) : Option (Nat × List D) :=
 tjoin 4 (
  iter (tbody 1 (S573L0 G x0 x1)) fuel [.int 0]) fun _e2 =>
 some (0, [.bool false])
theorem eq573 {G fuel} (x0 x1) : run G fuel T573 [x0, x1] = S573 G fuel x0 x1 := by rw [run_eq]; kernel_rfl
theorem valid_len8 {n : Nat} {ts : List (List Int)} (h : validP n ts = true) : n ≤ 64 := by
 simp only [validP, Bool.and_eq_true, decide_eq_true_eq] at h
 exact h.1.1
attribute [local irreducible] vl il tl totL szM validP tif tjoin IntKind.wrap F150 F151

theorem lss_t8 {x y : Int} (h : x < y) : gev none (.icm .lss) [.int x, .int y] = some (.bool true) := by rw [p_lss, decide_eq_true h]
theorem lss_f8 {x y : Int} (h : ¬ x < y) : gev none (.icm .lss) [.int x, .int y] = some (.bool false) := by rw [p_lss, decide_eq_false h]
theorem F31_m {x y z k : Nat} : F31 [.flt x, .flt y, .flt z, .flt k] = some [.flt (fmul .f32 x k), .flt (fmul .f32 y k), .flt (fmul .f32 z k)] := rfl
theorem run570 {G : Told} (g31 : G 31 = F31) : Runs G F570 T570 := by
 intro ds rs h
 unfold F570 at h
 split at h
 case h_2 => cases h
 rename_i x y z k
 simp only [Option.some.injEq] at h
 subst h
 refine ⟨0, ?_⟩
 rw [eq570]
 unfold S570
 exact st_some (gcall_on g31 rfl F31_m rfl) rfl
theorem set_vl8 {l : List V3} {i : Nat} {v : V3} (h : i < l.length) : gev none .set [vl l, .int i, .agg [.flt v.x, .flt v.y, .flt v.z]] = some (vl (l.set i v)) := by
 have : gev none .set [vl l, .int i, vec v] = some (vl (l.set i v)) := by with_unfolding_all exact set_vl h
 exact this
theorem p_vi8 {l : List V3} {i : Nat} (h : i < l.length) : gev none .idx [vl l, .int i] = some (vec (l.getD i ⟨0, 0, 0⟩)) := by rw [idx_vl h, getD_lt h]
theorem run572 {G : Told} (g150 : G 150 = F150) (g151 : G 151 = F151) (g570 : G 570 = F570) : Runs G F572 T572 := by
 intro ds rs h
 unfold F572 at h
 split at h
 case h_2 => cases h
 rename_i a b k
 obtain ⟨vs, ha, h1⟩ := Option.bind_eq_some_iff.1 h
 obtain ⟨ts, hb, h2⟩ := Option.bind_eq_some_iff.1 h1
 clear h h1
 rw [dV_inv ha, dT_inv hb]
 clear ha hb
 split at h2
 case isFalse => cases h2
 rename_i hz
 simp only [Option.some.injEq] at h2
 subst h2
 have c1 := F150_m hz
 refine ⟨vs.length + 1, ?_⟩
 rw [eq572]
 unfold S572
 cases hv : validP vs.length ts
 ·rw [hv] at c1
  refine st_some (gcall_on g150 rfl c1 rfl) ?_;refine st_some p_bnot ?_;refine st_ift ?_
  with_unfolding_all rfl
 rw [hv] at c1
 have hl := (valid_len8 hv)
 have hloop : iter (tbody 2 (S572L0 G (.flt k) (.int (vs.length : Int)))) (vs.length + 1) [vl vs, .int 0] = some (0, [vl (sclA k vs), .int (vs.length : Int), .bool false]) := by
  have h1 := iter_upto (body := tbody 2 (S572L0 G (.flt k) (.int (vs.length : Int)))) (n := vs.length) (l := 0) (ds := [vl (sclA k vs), .int (vs.length : Int), .bool false])
   (fun i => [vl (sclN k vs i), .int (i : Int)]) ?_ ?_
  ·simpa [sclN] using h1
  ·intro i hi
   refine tb rfl ?_;have hi' : i < (sclN k vs i).length := by rw [sclN_len]; exact hi
   unfold S572L0;refine st_some (lss_t8 (by omega)) ?_
   refine st_ift ?_;refine st_some (p_vi8 hi') ?_;refine st_some (p_vi8 hi') ?_;refine st_some p_v0 ?_;refine st_some p_v1 ?_;refine st_some p_v2 ?_;refine st_some (gcall_on g570 rfl (show F570 _ = some _ from rfl) rfl) ?_
   refine st_some (p_vi8 hi') ?_;refine st_some p_agg ?_;refine st_some (set_vl8 (v := V3.scale ((sclN k vs i).getD i ⟨0, 0, 0⟩) k) hi') ?_;exact st_some (add1n (by omega)) rfl
  ·refine tb rfl ?_
   unfold S572L0;refine st_some (lss_f8 (by omega)) ?_
   exact st_iff rfl
 have c2 : gcall G none 151 [vl vs, tl ts] 2 = some [vl vs, tl ts] := gcall_on g151 rfl (by with_unfolding_all exact F145_m hz) rfl
 refine st_some (gcall_on g150 rfl c1 rfl) ?_
 refine st_some p_bnot ?_
 refine st_iff ?_
 refine st_some c2 ?_
 refine st_some len_vl ?_
 exact st_join hloop rfl rfl
theorem run571 {G : Told} (g572 : G 572 = F572) : Runs G F571 T571 := by
 intro ds rs h
 have h' : F572 ds = some rs := h
 unfold F571 F572 at h
 split at h
 case h_2 => cases h
 rename_i a b k
 obtain ⟨vs, ha, h1⟩ := Option.bind_eq_some_iff.1 h
 obtain ⟨ts, hb, h2⟩ := Option.bind_eq_some_iff.1 h1
 split at h2
 case isFalse => cases h2
 simp only [Option.some.injEq] at h2
 refine ⟨0, ?_⟩
 rw [eq571]
 unfold S571
 subst h2
 have hl : ∃ x y z, (if validP vs.length ts = true then [vl (sclA k vs), tl ts, .bool true] else [vl [], tl [], .bool false]) = [x, y, z] := by
  split
  ·exact ⟨_, _, _, rfl⟩
  ·exact ⟨_, _, _, rfl⟩
 obtain ⟨x, y, z, e⟩ := hl
 rw [e] at h' ⊢
 exact st_some (gcall_on g572 rfl h' rfl) rfl
theorem take_contains {l : List Int} {n : Int} {i : Nat} (hi : i < l.length) : (l.take (i + 1)).contains n = ((l.take i).contains n || l[i] == n) := by
 rw [List.take_succ_eq_append_getElem hi]
 simp only [List.contains_eq_mem, List.mem_append, List.mem_singleton, Bool.decide_or]
 congr 1
 exact decide_eq_decide.2 eq_comm
theorem run573 {G : Told} : Runs G F573 T573 := by
 intro ds rs h
 unfold F573 at h
 split at h
 case h_2 => cases h
 rename_i a n
 obtain ⟨l, ha, h1⟩ := Option.bind_eq_some_iff.1 h
 clear h
 rw [dI_inv ha]
 clear ha
 split at h1
 case isFalse => cases h1
 rename_i hz
 simp only [Option.some.injEq] at h1
 subst h1
 refine ⟨l.length + 1, ?_⟩
 rw [eq573]
 unfold S573
 have key : ∀ m i, i + m = l.length → (l.take i).contains n = false → tjoin 4 (iter (tbody 1 (S573L0 G (il l) (.int n))) (m + 1) [.int (i : Int)]) (fun _e2 => some (0, [(.bool false)])) = some (0, [.bool (l.contains n)]) := by
  intro m
  induction m with
  | zero =>
   intro i hi hc;have e : i = l.length := by omega
   rw [e, List.take_length] at hc;rw [hc];refine st_join (ds := [.int (i : Int), .int (i : Int), .int (l.length : Int), .bool false]) (iter_end (l := 0) (tb rfl ?_) rfl) rfl rfl;unfold S573L0;refine st_some len_il ?_;refine st_some (lss_f8 (by omega)) ?_
   exact st_iff rfl
  | succ m ih =>
   intro i hi hc;have hi' : i < l.length := by omega
   cases hx : l[i] == n
   ·have h2 := ih (i + 1) (by omega) (by rw [take_contains hi', hc, hx]; rfl)
    rw [← h2]
    congr 1
    refine iter_go (tb rfl ?_) rfl;unfold S573L0;refine st_some len_il ?_;refine st_some (lss_t8 (by omega)) ?_
    refine st_ift ?_;refine st_some (idx_il hi') ?_;refine st_some (p_eql.trans (by rw [hx])) ?_
    refine st_iff ?_;exact st_some (add1n (by omega)) rfl
   ·have hm : l.contains n = true := by rw [List.contains_iff_mem];have := eq_of_beq hx;rw [← this];exact List.getElem_mem hi'
    rw [hm];refine st_out (l := 0) (ds := [.bool true]) (iter_end (l := 1) (tb rfl ?_) rfl) rfl;unfold S573L0;refine st_some len_il ?_;refine st_some (lss_t8 (by omega)) ?_
    refine st_ift ?_;refine st_some (idx_il hi') ?_;refine st_some (p_eql.trans (by rw [hx])) ?_
    exact st_ift rfl
 exact key l.length 0 (by omega) (by simp)
end Vs
