/-
  Euler's number of a mesh, by both.
-/
import Derived.Test.YtaakjnkllodchaaGreatKq4
set_option maxHeartbeats 4000000
namespace Vs
open Go Go.Sort
noncomputable def F445 : List D → Option (List D)
 | [a, b] => (dV a).bind fun vs => (dT b).bind fun ts => if szM vs ts ≤ 1048576 then some (if validP vs.length ts = true then [.int (eulP vs.length ts), .bool true] else [.int 0, .bool false]) else none
 | _ => none
theorem F445_m {vs : List V3} {ts : List (List Int)} (h : szM vs ts ≤ 1048576) : F445 [vl vs, tl ts] = some (if validP vs.length ts = true then [.int (eulP vs.length ts), .bool true] else [.int 0, .bool false]) := by
 simp only [F445, dV_vl, dT_tl, Option.bind_some]
 rw [if_pos h]
def T445 : T :=
(cc 150 [0, 1] 1 <|
oo .bnot [2] <|
.ite 3
 (.out 0 [kI 0, kN])
 (oo .len [1] <|
 cc 169 [0, 1] 1 <|
 oo .len [5] <|
 .join 3
  (.loop [4, kI 0]
   (oo (.icm .lss) [8, 6] <|
   .ite 9
    (oo .idx [5, 8] <|
    oo .idx [5, 8] <|
    .join 1
     (.ite 11
      (oo (.iar .add .i64) [7, kI 1] <|
      .out 0 [12])
      (.out 0 [7]))
    (oo (.iar .add .i64) [8, kI 1] <|
    .out 0 [12, 13]))
    (.out 1 [7, 8, 9])))
 (cc 401 [0, 1] 2 <|
 oo .len [11] <|
 oo (.iar .sub .i64) [7, 12] <|
 .out 0 [13, kT])))
def S445L0 (_G : Told) (e5 : List D) (x6 : D) : List D → Option (Nat × List D) := fun e7 =>
    (gev none (.icm .lss) [e7.getD 1 .undef, x6]).bind fun x9 =>
    tif x9 (
     (gev none .idx [e5.getD 0 .undef, e7.getD 1 .undef]).bind fun _x10 =>
     (gev none .idx [e5.getD 0 .undef, e7.getD 1 .undef]).bind fun x11 =>
     tjoin 1 (
      tif x11 (
       (gev none (.iar .add .i64) [e7.getD 0 .undef, .int 1]).bind fun x12 =>
       some (0, [x12])) (
       some (0, [e7.getD 0 .undef]))) fun e12 =>
     (gev none (.iar .add .i64) [e7.getD 1 .undef, .int 1]).bind fun x13 =>
     some (0, [e12.getD 0 .undef, x13])) (
     some (1, [e7.getD 0 .undef, e7.getD 1 .undef, x9]))
def S445 (G : Told) (fuel : Nat) (x0 x1 : D) : Option (Nat × List D) :=
 (gcall G none 150 [x0, x1] 1).bind fun e2 =>
 (gev none .bnot [e2.getD 0 .undef]).bind fun x3 =>
 tif x3 (
  some (0, [.int 0, .bool false])) (
  (gev none .len [x1]).bind fun x4 =>
  (gcall G none 169 [x0, x1] 1).bind fun e5 =>
  (gev none .len [e5.getD 0 .undef]).bind fun x6 =>
  tjoin 3 (
   iter (tbody 2 (S445L0 G e5 x6)) fuel [x4, .int 0]) fun e7 =>
  (gcall G none 401 [x0, x1] 2).bind fun e10 =>
  (gev none .len [e10.getD 1 .undef]).bind fun x12 =>
  (gev none (.iar .sub .i64) [e7.getD 0 .undef, x12]).bind fun x13 =>
  some (0, [x13, .bool true]))
theorem eq445 {G fuel} (x0 x1) : run G fuel T445 [x0, x1] = S445 G fuel x0 x1 := by rw [run_eq]; kernel_rfl
theorem edg_len2 {n : Nat} {ts : List (List Int)} (h : n ≤ 64) : (edgL ts n).length ≤ 4096 :=
 Nat.le_trans (edgN_len ts n n) (Nat.mul_le_mul h h)
theorem len_edl2 {l : List E2} : gev none .len [edl l] = some (.int (l.length : Int)) := by simp [gev, gok, Prim.ev, edl]
attribute [local irreducible] IntKind.wrap il tl vl bo mpD kD edl inr validP sheetP atL edgL usedP

theorem run445 {G : Told} (g150 : G 150 = F150) (g169 : G 169 = F169) (g401 : G 401 = F401) : Runs G F445 T445 := by
 intro ds rs h
 unfold F445 at h
 split at h
 case h_2 => cases h
 rename_i a b
 obtain ⟨vs, ha, h⟩ := Option.bind_eq_some_iff.1 h
 obtain ⟨ts, hb, h⟩ := Option.bind_eq_some_iff.1 h
 rw [dV_inv ha, dT_inv hb]
 split at h
 case isFalse => cases h
 rename_i hc
 simp only [Option.some.injEq] at h
 subst h
 clear ha
 clear hb
 refine ⟨1000, ?_⟩
 rw [eq445]
 unfold S445
 have ck : gcall G none 150 [vl vs, tl ts] 1 = some [.bool (validP vs.length ts)] := gcall_on g150 rfl (F150_m hc) rfl
 cases hval : validP vs.length ts with
 | false =>
  rw [hval] at ck;rw [if_neg (by simp)]
  simp only [ev0, ck]
 | true =>
 rw [hval] at ck
 rw [if_pos rfl]
 obtain ⟨hn, h128⟩ := valid_len hval
 have hel := edg_len2 (ts := ts) hn
 have hul := usN_le ts vs.length
 have hT := triOk_of hval
 have hlt := len_tl (l := ts)
 have c0 : gcall G none 401 [vl vs, tl ts] 2 = some [mpD il (byT ts).1, edl (edgL ts vs.length)] := gcall_on g401 rfl (by rw [F401_m (valid64 hval), sort_edges hT]) rfl
 have hle := len_edl2 (l := edgL ts vs.length)
 have c1 : gcall G none 169 [vl vs, tl ts] 1 = some [bo ((List.range vs.length).map (usedP ts))] := gcall_on g169 rfl (F169_m hval) rfl
 have hlb := len_bo (l := (List.range vs.length).map (usedP ts))
 rw [List.length_map, List.length_range] at hlb
 have hit : iter (tbody 2 (S445L0 G [bo ((List.range vs.length).map (usedP ts))] (.int (vs.length : Int)))) 1000 [.int (ts.length : Int), .int 0] = some (0, [.int ((ts.length + usN ts vs.length : Nat) : Int), .int (vs.length : Int), .bool false]) := by
  refine iter_to (body := tbody 2 (S445L0 G [bo ((List.range vs.length).map (usedP ts))] (.int (vs.length : Int)))) (n := vs.length) (f := 1000) (l := 0) (ds := [.int ((ts.length + usN ts vs.length : Nat) : Int), .int (vs.length : Int), .bool false]) (fun i => [.int ((ts.length + usN ts i : Nat) : Int), .int (i : Int)]) (by omega) (fun i hi => ?_) ?_
  ·refine tb rfl ?_
   have h0 : decide ((i : Int) < (vs.length : Int)) = true := by simpa using hi
   have hxb := idx_bo (l := (List.range vs.length).map (usedP ts)) (i := i) (by simp; omega)
   rw [List.getElem_map, List.getElem_range] at hxb;have hadd := add1n (i := i) (by omega)
   have hui := usN_le ts i;have hadd2 := add1n (i := ts.length + usN ts i) (by omega)
   have hun : usN ts (i + 1) = usN ts i + (if usedP ts i = true then 1 else 0) := rfl
   rw [hun];unfold S445L0
   cases hus : usedP ts i with
   | true =>
    rw [hus] at hxb;rw [if_pos rfl];simp only [ev0, j_0, List.length_cons, List.length_nil, Nat.zero_add, if_true, h0, hxb, hadd, hadd2, Nat.add_assoc]
   | false =>
    rw [hus] at hxb;rw [if_neg (by simp)]
    simp only [ev0, j_0, List.length_cons, List.length_nil, Nat.zero_add, if_true, h0, hxb, hadd, Nat.add_zero]
  ·refine tb rfl ?_
   have h0 : decide ((vs.length : Int) < (vs.length : Int)) = false := by simp
   unfold S445L0;simp only [ev0, p_add, Nat.zero_add, h0]
 have w1 : IntKind.wrap .i64 (((ts.length + usN ts vs.length : Nat) : Int) - ((edgL ts vs.length).length : Int)) = (usN ts vs.length : Int) - ((edgL ts vs.length).length : Int) + (ts.length : Int) := by
  rw [wrap_id (by omega) (by omega)]
  omega
 unfold eulP
 simp only [ev0, j_0, p_sub, List.length_cons, List.length_nil, Nat.zero_add, Nat.reduceAdd, if_true, ck, hlt, c1, hlb, hit, c0, hle, w1]
end Vs
