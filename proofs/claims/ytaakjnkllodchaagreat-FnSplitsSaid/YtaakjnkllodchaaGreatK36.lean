/-
  An edge joined: by the program and by the reference.
-/
import Derived.Test.YtaakjnkllodchaaGreatK34
import Derived.Test.YtaakjnkllodchaaGreatK35
import Derived.Test.YtaakjnkllodchaaGreatNx3
set_option maxHeartbeats 4000000
namespace Vs
open Go Go.Sort
noncomputable def F439 : List D → Option (List D)
 | [a, b, .int p, .int q] => (dV a).bind fun vs => (dT b).bind fun ts => if okP vs.length ts p q = true then some [vl (joinV vs q), tl (joinT ts p q)] else none
 | _ => none
theorem F439_m {vs : List V3} {ts : List (List Int)} {p q : Int} (h : okP vs.length ts p q = true) : F439 [vl vs, tl ts, .int p, .int q] = some [vl (joinV vs q), tl (joinT ts p q)] := by
 simp only [F439, dV_vl, dT_tl, Option.bind_some]
 rw [if_pos h]
def okJ (n : Nat) (ts : List (List Int)) (p q : Int) : Bool := !decide ((atL ts p q).length = 0) && (!decide ((joinT ts p q).length = 0) && (sheetP (joinT ts p q) && (!twinB (joinT ts p q) && (eulP (n - 1) (joinT ts p q) == eulP n ts))))
noncomputable def F443 : List D → Option (List D)
 | [a, b, .int p, .int q] => (dV a).bind fun vs => (dT b).bind fun ts => if szM vs ts ≤ 1048576 then some [.bool (pairP vs.length ts p q && okJ vs.length ts p q)] else none
 | _ => none
theorem F443_m {vs : List V3} {ts : List (List Int)} {p q : Int} (h : szM vs ts ≤ 1048576) : F443 [vl vs, tl ts, .int p, .int q] = some [.bool (pairP vs.length ts p q && okJ vs.length ts p q)] := by
 simp only [F443, dV_vl, dT_tl, Option.bind_some]
 rw [if_pos h]
noncomputable def F444 : List D → Option (List D)
 | [a, b, .int p, .int q] => (dV a).bind fun vs => (dT b).bind fun ts => if szM vs ts ≤ 1048576 then some (if (pairP vs.length ts p q && okJ vs.length ts p q) = true then [vl (joinV vs q), tl (joinT ts p q), .bool true] else [vl [], tl [], .bool false]) else none
 | _ => none
theorem F444_m {vs : List V3} {ts : List (List Int)} {p q : Int} (h : szM vs ts ≤ 1048576) : F444 [vl vs, tl ts, .int p, .int q] = some (if (pairP vs.length ts p q && okJ vs.length ts p q) = true then [vl (joinV vs q), tl (joinT ts p q), .bool true] else [vl [], tl [], .bool false]) := by
 simp only [F444, dV_vl, dT_tl, Option.bind_some]
 rw [if_pos h]
def T439 : T :=
(oo .mklst [] <|
oo .app [4, 0] <|
oo (.iar .add .i64) [3, kI 1] <|
cc 440 [5, 3, 6] 1 <|
oo .len [1] <|
.join 3
 (.loop [kL, (.c (.int 0))]
  (oo (.icm .lss) [10, 8] <|
  .ite 11
   (.join 7
    (oo .idx [1, 10] <|
    cc 441 [12, 2] 1 <|
    oT 13 .id [12] <|
    oT 13 .id [3] <|
    cT 13 441 [14, 15] 1 <|
    oo .pick [13, 16, kN] <|
    .ite 17
     (.out 0 [9, 12, 12, 12, 13, 13, 17])
     (oo .mklst [] <|
     oo .len [12] <|
     .join 3
      (.loop [18, kI 0]
       (oo (.icm .lss) [21, 19] <|
       .ite 22
        (oo .idx [12, 21] <|
        oo (.icm .eql) [23, 3] <|
        .join 1
         (.ite 24
          (.out 0 [2])
          (.out 0 [23]))
        (oo (.icm .gtr) [25, 3] <|
        .join 1
         (.ite 26
          (oo (.iar .sub .i64) [25, kI 1] <|
          .out 0 [27])
          (.out 0 [25]))
        (oo .mklst [27] <|
        oo .app [20, 28] <|
        oo (.iar .add .i64) [21, kI 1] <|
        .out 0 [29, 30])))
        (.out 1 [20, 21, 22])))
     (oo .mklst [20] <|
     oo .app [9, 23] <|
     .out 0 [24, 12, 12, 12, 13, 13, 17])))
   (oo (.iar .add .i64) [10, kI 1] <|
   .out 0 [12, 19]))
   (.out 1 [9, 10, 11])))
(.out 0 [7, 9]))
def S439L0 (_G : Told) (x2 : D) (x3 : D) (x12 : D) (x19 : D) : List D → Option (Nat × List D) := fun e20 =>
        (gev none (.icm .lss) [e20.getD 1 .undef, x19]).bind fun x22 =>
        tif x22 (
         (gev none .idx [x12, e20.getD 1 .undef]).bind fun x23 =>
         (gev none (.icm .eql) [x23, x3]).bind fun x24 =>
         tjoin 1 (
          tif x24 (
           some (0, [x2])) (
           some (0, [x23]))) fun e25 =>
         (gev none (.icm .gtr) [e25.getD 0 .undef, x3]).bind fun x26 =>
         tjoin 1 (
          tif x26 (
           (gev none (.iar .sub .i64) [e25.getD 0 .undef, .int 1]).bind fun x27 =>
           some (0, [x27])) (
           some (0, [e25.getD 0 .undef]))) fun e27 =>
         (gev none .mklst [e27.getD 0 .undef]).bind fun x28 =>
         (gev none .app [e20.getD 0 .undef, x28]).bind fun x29 =>
         (gev none (.iar .add .i64) [e20.getD 1 .undef, .int 1]).bind fun x30 =>
         some (0, [x29, x30])) (
         some (1, [e20.getD 0 .undef, e20.getD 1 .undef, x22]))
def S439L1 (G : Told) (fuel : Nat) (x1 : D) (x2 : D) (x3 : D) (x8 : D) : List D → Option (Nat × List D) := fun e9 =>
   (gev none (.icm .lss) [e9.getD 1 .undef, x8]).bind fun x11 =>
   tif x11 (
    tjoin 7 (
     (gev none .idx [x1, e9.getD 1 .undef]).bind fun x12 =>
     (gcall G none 441 [x12, x2] 1).bind fun e13 =>
     (gev (some ((e13.getD 0 .undef), true)) .id [x12]).bind fun x14 =>
     (gev (some ((e13.getD 0 .undef), true)) .id [x3]).bind fun x15 =>
     (gcall G (some ((e13.getD 0 .undef), true)) 441 [x14, x15] 1).bind fun e16 =>
     (gev none .pick [e13.getD 0 .undef, e16.getD 0 .undef, .bool false]).bind fun x17 =>
     tif x17 (
      some (0, [e9.getD 0 .undef, x12, x12, x12, e13.getD 0 .undef, e13.getD 0 .undef, x17])) (
      (gev none .mklst []).bind fun x18 =>
      (gev none .len [x12]).bind fun x19 =>
      tjoin 3 (
       iter (tbody 2 (S439L0 G x2 x3 x12 x19)) fuel [x18, .int 0]) fun e20 =>
      (gev none .mklst [e20.getD 0 .undef]).bind fun x23 =>
      (gev none .app [e9.getD 0 .undef, x23]).bind fun x24 =>
      some (0, [x24, x12, x12, x12, e13.getD 0 .undef, e13.getD 0 .undef, x17]))) fun e12 =>
    (gev none (.iar .add .i64) [e9.getD 1 .undef, .int 1]).bind fun x19 =>
    some (0, [e12.getD 0 .undef, x19])) (
    some (1, [e9.getD 0 .undef, e9.getD 1 .undef, x11]))
def S439 (G : Told) (fuel : Nat) (x0 x1 x2 x3 : D) : Option (Nat × List D) :=
 (gev none .mklst []).bind fun x4 =>
 (gev none .app [x4, x0]).bind fun x5 =>
 (gev none (.iar .add .i64) [x3, .int 1]).bind fun x6 =>
 (gcall G none 440 [x5, x3, x6] 1).bind fun e7 =>
 (gev none .len [x1]).bind fun x8 =>
 tjoin 3 (
  iter (tbody 2 (S439L1 G fuel x1 x2 x3 x8)) fuel [(.lst []), (.int 0)]) fun e9 =>
 some (0, [e7.getD 0 .undef, e9.getD 0 .undef])
theorem eq439 {G fuel} (x0 x1 x2 x3) : run G fuel T439 [x0, x1, x2, x3] = S439 G fuel x0 x1 x2 x3 := by rw [run_eq]; kernel_rfl
def T443 : T :=
(cc 410 [0, 1, 2, 3] 1 <|
oo .bnot [4] <|
oN 5 .id [2] <|
oN 5 .id [3] <|
oN 5 .mklst [6, 7] <|
cN 5 411 [0, 1, 8] 1 <|
oN 5 .len [9] <|
oN 5 (.icm .eql) [10, kI 0] <|
oo .pick [5, kT, 11] <|
.ite 12
 (.out 0 [kN])
 (cc 439 [0, 1, 2, 3] 2 <|
 oo .len [14] <|
 oo (.icm .eql) [15, kI 0] <|
 cN 16 403 [13, 14] 1 <|
 oN 16 .bnot [17] <|
 oo .pick [16, kT, 18] <|
 cN 19 404 [13, 14] 1 <|
 oo .pick [19, kT, 20] <|
 .ite 21
  (.out 0 [kN])
  (cc 445 [0, 1] 2 <|
  cc 445 [13, 14] 2 <|
  oo (.icm .eql) [22, 24] <|
  .out 0 [26])))
def S443 (G : Told) (_fuel : Nat) (x0 x1 x2 x3 : D) : Option (Nat × List D) :=
 (gcall G none 410 [x0, x1, x2, x3] 1).bind fun e4 =>
 (gev none .bnot [e4.getD 0 .undef]).bind fun x5 =>
 (gev (some (x5, false)) .id [x2]).bind fun x6 =>
 (gev (some (x5, false)) .id [x3]).bind fun x7 =>
 (gev (some (x5, false)) .mklst [x6, x7]).bind fun x8 =>
 (gcall G (some (x5, false)) 411 [x0, x1, x8] 1).bind fun e9 =>
 (gev (some (x5, false)) .len [e9.getD 0 .undef]).bind fun x10 =>
 (gev (some (x5, false)) (.icm .eql) [x10, .int 0]).bind fun x11 =>
 (gev none .pick [x5, .bool true, x11]).bind fun x12 =>
 tif x12 (
  some (0, [.bool false])) (
  (gcall G none 439 [x0, x1, x2, x3] 2).bind fun e13 =>
  (gev none .len [e13.getD 1 .undef]).bind fun x15 =>
  (gev none (.icm .eql) [x15, .int 0]).bind fun x16 =>
  (gcall G (some (x16, false)) 403 [e13.getD 0 .undef, e13.getD 1 .undef] 1).bind fun e17 =>
  (gev (some (x16, false)) .bnot [e17.getD 0 .undef]).bind fun x18 =>
  (gev none .pick [x16, .bool true, x18]).bind fun x19 =>
  (gcall G (some (x19, false)) 404 [e13.getD 0 .undef, e13.getD 1 .undef] 1).bind fun e20 =>
  (gev none .pick [x19, .bool true, e20.getD 0 .undef]).bind fun x21 =>
  tif x21 (
   some (0, [.bool false])) (
   (gcall G none 445 [x0, x1] 2).bind fun e22 =>
   (gcall G none 445 [e13.getD 0 .undef, e13.getD 1 .undef] 2).bind fun e24 =>
   (gev none (.icm .eql) [e22.getD 0 .undef, e24.getD 0 .undef]).bind fun x26 =>
   some (0, [x26])))
theorem eq443 {G fuel} (x0 x1 x2 x3) : run G fuel T443 [x0, x1, x2, x3] = S443 G fuel x0 x1 x2 x3 := by rw [run_eq]; kernel_rfl
def T444 : T :=
(cc 443 [0, 1, 2, 3] 1 <|
oo .bnot [4] <|
.ite 5
 (.out 0 [kL, kL, kN])
 (cc 439 [0, 1, 2, 3] 2 <|
 .out 0 [6, 7, kT]))
def S444 (G : Told) (_fuel : Nat) (x0 x1 x2 x3 : D) : Option (Nat × List D) :=
 (gcall G none 443 [x0, x1, x2, x3] 1).bind fun e4 =>
 (gev none .bnot [e4.getD 0 .undef]).bind fun x5 =>
 tif x5 (
  some (0, [(.lst []), (.lst []), (.bool false)])) (
  (gcall G none 439 [x0, x1, x2, x3] 2).bind fun e6 =>
  some (0, [e6.getD 0 .undef, e6.getD 1 .undef, .bool true]))
theorem eq444 {G fuel} (x0 x1 x2 x3) : run G fuel T444 [x0, x1, x2, x3] = S444 G fuel x0 x1 x2 x3 := by rw [run_eq]; kernel_rfl
theorem F440_m {vs : List V3} {q : Int} (h : 0 ≤ q ∧ q < (vs.length : Int)) (hl : vs.length ≤ 1048576) : F440 [vl vs, .int q, .int (q + 1)] = some [vl (joinV vs q)] := by
 unfold vl joinV
 show (if q + 1 = q + 1 ∧ 0 ≤ q ∧ q < ((vs.map vec).length : Int) ∧ (vs.map vec).length ≤ 1048576 then _ else _) = _
 rw [List.length_map, if_pos ⟨rfl, h.1, h.2, hl⟩, List.map_append, List.map_take, List.map_drop]
theorem join_snoc (ts : List (List Int)) (t : List Int) (a b : Int) : joinT (ts ++ [t]) a b = if hasB t a b = true then joinT ts a b else joinT ts a b ++ [t.map (jnP a b)] := by
 unfold joinT
 rw [List.filter_append, List.map_append]
 cases h : hasB t a b <;> simp [h]
theorem jn_le (ts : List (List Int)) (a b : Int) (i : Nat) : (joinT (ts.take i) a b).length ≤ i := by
 have := join_len (ts.take i) a b
 rw [List.length_take] at this
 omega
attribute [local irreducible] IntKind.wrap il tl vl bo mpD kD edl inr validP sheetP atL edgL

theorem jn_one {G : Told} {a b x : Int} (ha : 0 ≤ a ∧ a < 64) (hx : 0 ≤ x ∧ x < 64) {t acc : List Int} {k : Nat} (hk : k < 3) (hacc : acc.length = k) (xk : gev none .idx [il t, .int (k : Int)] = some (.int x)) :
  S439L0 G (.int a) (.int b) (il t) (.int 3) [il acc, .int (k : Int)] = some (0, [il (acc ++ [jnP a b x]), .int ((k + 1 : Nat) : Int)]) := by
 have h0 : decide ((k : Int) < 3) = true := by simp; omega
 have hadd := add1n (i := k) (by omega)
 have happ := fun v => app_il1 (l := acc) (v := v) (by omega)
 have wA : IntKind.wrap .i64 (a - 1) = a - 1 := wrap_id (by omega) (by omega)
 have wX : IntKind.wrap .i64 (x - 1) = x - 1 := wrap_id (by omega) (by omega)
 unfold S439L0 jnP
 by_cases h1 : x = b
 ·have e1 : (x == b) = true := by simpa using h1
  rw [if_pos h1]
  by_cases h2 : a > b
  ·have d : decide (a > b) = true := by simpa using h2
   rw [if_pos h2];simp only [ev0, j_0, p_sub, List.length_cons, List.length_nil, Nat.zero_add, if_true, h0, xk, e1, d, wA, hadd, happ, p_il1]
  ·have d : decide (a > b) = false := by simpa using h2
   rw [if_neg h2];simp only [ev0, j_0, p_sub, List.length_cons, List.length_nil, Nat.zero_add, if_true, h0, xk, e1, d, wA, hadd, happ, p_il1]
 ·have e1 : (x == b) = false := by simpa using h1
  rw [if_neg h1]
  by_cases h2 : x > b
  ·have d : decide (x > b) = true := by simpa using h2
   rw [if_pos h2];simp only [ev0, j_0, p_sub, List.length_cons, List.length_nil, Nat.zero_add, if_true, h0, xk, e1, d, wX, hadd, happ, p_il1]
  ·have d : decide (x > b) = false := by simpa using h2
   rw [if_neg h2];simp only [ev0, j_0, p_sub, List.length_cons, List.length_nil, Nat.zero_add, if_true, h0, xk, e1, d, wX, hadd, happ, p_il1]
theorem jn_all {G : Told} {a b x y z : Int} (ha : 0 ≤ a ∧ a < 64) (hx : 0 ≤ x ∧ x < 64) (hy : 0 ≤ y ∧ y < 64) (hz : 0 ≤ z ∧ z < 64) :
  iter (tbody 2 (S439L0 G (.int a) (.int b) (il [x, y, z]) (.int 3))) 1000 [il [], .int 0] = some (0, [il ([x, y, z].map (jnP a b)), .int 3, .bool false]) := by
 refine itf (f := 4) ?_ (by omega)
 refine iter_go (ds' := [il [jnP a b x], .int 1]) (tb rfl (jn_one (k := 0) (acc := []) ha hx (by omega) rfl p_i0)) ?_
 refine iter_go (ds' := [il [jnP a b x, jnP a b y], .int 2]) (tb rfl (jn_one (k := 1) (acc := [_]) ha hy (by omega) rfl p_i1)) ?_
 refine iter_go (ds' := [il [jnP a b x, jnP a b y, jnP a b z], .int 3]) (tb rfl (jn_one (k := 2) (acc := [_, _]) ha hz (by omega) rfl p_i2)) ?_
 refine iter_end (l := 0) (tb rfl ?_) rfl
 have h0 : decide ((3 : Int) < 3) = false := by decide
 unfold S439L0
 simp only [ev0, Nat.zero_add, h0]
 rfl
theorem run439 {G : Told} (g440 : G 440 = F440) (g441 : G 441 = F441) : Runs G F439 T439 := by
 intro ds rs h
 unfold F439 at h
 split at h
 case h_2 => cases h
 rename_i a b p q
 obtain ⟨vs, ha, h⟩ := Option.bind_eq_some_iff.1 h
 obtain ⟨ts, hb, h⟩ := Option.bind_eq_some_iff.1 h
 rw [dV_inv ha, dT_inv hb]
 split at h
 case isFalse => cases h
 rename_i hc
 simp only [Option.some.injEq] at h
 subst h
 clear ha
 clear hb
 obtain ⟨hv, hp, hq, hpq⟩ := okP_ok hc
 obtain ⟨hn, h128⟩ := valid_len hv
 have hT := triOk_of hv
 refine ⟨1000, ?_⟩
 rw [eq439]
 unfold S439
 have hap0 : gev none .app [.lst [], vl vs] = some (vl vs) := by
  have := app_vls (l := []) (m := vs) (by simp; omega)
  rw [vl_nil] at this;simpa using this
 have w1 : IntKind.wrap .i64 (q + 1) = q + 1 := wrap_id (by omega) (by omega)
 have c0 : gcall G none 440 [vl vs, .int q, .int (q + 1)] 1 = some [vl (joinV vs q)] := gcall_on g440 rfl (F440_m hq (by omega)) rfl
 have hlt := len_tl (l := ts)
 have hit : iter (tbody 2 (S439L1 G 1000 (tl ts) (.int p) (.int q) (.int (ts.length : Int)))) 1000 [tl (joinT (ts.take 0) p q), .int ((0 : Nat) : Int)] = some (0, [tl (joinT (ts.take ts.length) p q), .int (ts.length : Int), .bool false]) := by
  refine iter_to (body := tbody 2 (S439L1 G 1000 (tl ts) (.int p) (.int q) (.int (ts.length : Int)))) (n := ts.length) (f := 1000) (l := 0) (fun i => [tl (joinT (ts.take i) p q), .int (i : Int)]) (by omega) (fun i hi => ?_) ?_
  ·refine tb rfl ?_
   obtain ⟨x, y, z, ht, _, _, _, hx, hy, hz⟩ := hT.at hi;have h0 : decide ((i : Int) < (ts.length : Int)) = true := by simpa using hi
   have hti := p_ti hi;rw [ht] at hti;have hadd := add1n (i := i) (by omega)
   have e : joinT (ts.take (i + 1)) p q = if hasB [x, y, z] p q = true then joinT (ts.take i) p q else joinT (ts.take i) p q ++ [[x, y, z].map (jnP p q)] := by rw [take_step hi, join_snoc, ← getD_lt (d := []) hi, ht]
   have hjl := jn_le ts p q i;have happ := app_tl (l := joinT (ts.take i) p q) (v := [x, y, z].map (jnP p q)) (by omega)
   rw [e];unfold hasB;have c1 : gcall G none 441 [il [x, y, z], .int p] 1 = some [.bool ([x, y, z].contains p)] := gcall_on g441 rfl F441_m rfl;have c2 : gcall G none 441 [il [x, y, z], .int q] 1 = some [.bool ([x, y, z].contains q)] := gcall_on g441 rfl F441_m rfl;have hl3 := len_il (l := [x, y, z]);have hl3 : gev none .len [il [x, y, z]] = some (.int 3) := hl3;have hin := jn_all (G := G) (a := p) (b := q) (x := x) (y := y) (z := z) ⟨hp.1, by omega⟩ ⟨hx.1, by omega⟩ ⟨hy.1, by omega⟩ ⟨hz.1, by omega⟩
   rw [il_nil] at hin;generalize [x, y, z].map (jnP p q) = T' at *;generalize [x, y, z].contains p = b1 at *;generalize [x, y, z].contains q = b2 at *;unfold S439L1
   cases b1
   ·rw [if_neg (by simp)]
    simp only [ev0, j_0, p_lst, List.replicate, List.length_cons, List.length_nil, Nat.zero_add, Nat.reduceAdd, if_true, h0, hti, c1, hl3, hin, happ, hadd]
   ·cases b2
    ·rw [if_neg (by simp)]
     simp only [ev0, j_0, p_lst, List.length_cons, List.length_nil, Nat.zero_add, Nat.reduceAdd, if_true, h0, hti, c1, c2, hl3, hin, happ, hadd]
    ·rw [if_pos (show (true && true) = true from rfl)]
     simp only [ev0, j_0, p_lst, List.length_cons, List.length_nil, Nat.zero_add, Nat.reduceAdd, if_true, h0, hti, c1, c2, hl3, hin, happ, hadd]
  ·refine tb rfl ?_
   have h0 : decide ((ts.length : Int) < (ts.length : Int)) = false := by simp
   unfold S439L1;simp only [ev0, p_add, p_lst, Nat.zero_add, h0]
 rw [List.take_length] at hit
 have hit : iter (tbody 2 (S439L1 G 1000 (tl ts) (.int p) (.int q) (.int (ts.length : Int)))) 1000 [.lst [], .int 0] = some (0, [tl (joinT ts p q), .int (ts.length : Int), .bool false]) := by rw [← tl_nil];exact hit
 simp only [j_0, p_add, p_lst, Option.bind_some, List.getD_cons_zero, List.length_cons, List.length_nil, Nat.zero_add, Nat.reduceAdd, if_true, hap0, w1, c0, hlt, hit]
theorem okJ_eq (n : Nat) (ts : List (List Int)) (p q : Int) : okJ n ts p q = (!decide ((atL ts p q).length = 0) && (!decide ((joinT ts p q).length = 0) && (sheetP (joinT ts p q) && (!twinB (joinT ts p q) && (eulP (n - 1) (joinT ts p q) == eulP n ts))))) := rfl
theorem eql0 (n : Nat) : ((n : Int) == 0) = decide (n = 0) := by
 rw [Bool.eq_iff_iff]
 simp
end Vs
