/-
  MendOnce and MendMesh, and their laws.
-/
import Derived.Test.YtaakjnkllodchaaGreatK31
import Derived.Test.YtaakjnkllodchaaGreatK33
import Derived.Test.YtaakjnkllodchaaGreatK37
import Derived.Test.YtaakjnkllodchaaGreatKq5
import Derived.Test.YtaakjnkllodchaaGreatK8
set_option maxHeartbeats 4000000
namespace Vs
open Go Go.Sort
def bstE (es : List E2) (st : Option (Nat × Nat)) (cmp : Nat → Bool) (ok : E2 → Bool) : Option E2 :=
 st.bind fun s => if (cmp s.2 && ok (es.getD s.1 (0, 0))) = true then some (es.getD s.1 (0, 0)) else none
def bstL (vs : List V3) (ts : List (List Int)) (l : Bool) : Option (Nat × Nat) := bstN (numL vs) (betL l) (edgL ts vs.length) (edgL ts vs.length).length
def bstF (vs : List V3) (ts : List (List Int)) : Option (Nat × Nat) := bstN (numF vs ts) (betL true) (edgL ts vs.length) (edgL ts vs.length).length
def longE (vs : List V3) (ts : List (List Int)) (lo : Nat) : Option E2 := bstE (edgL ts vs.length) (bstL vs ts true) (fun v => fgt .f32 v lo) (fun e => goodS vs.length ts e.1 e.2)
def shortE (vs : List V3) (ts : List (List Int)) (sh : Nat) : Option E2 := bstE (edgL ts vs.length) (bstL vs ts false) (fun v => flt .f32 v sh) (fun e => okJ vs.length ts e.1 e.2)
def flipE (vs : List V3) (ts : List (List Int)) : Option E2 := bstE (edgL ts vs.length) (bstF vs ts) (fun v => fgt .f32 v 0) (fun e => flipB ts e.1 e.2)
def splM (vs : List V3) (ts : List (List Int)) (e : E2) : List V3 × List (List Int) × Int := (vs ++ [midV vs e.1 e.2 1056964608], splT ts e.1 e.2 vs.length, 1)
def joiM (vs : List V3) (ts : List (List Int)) (e : E2) : List V3 × List (List Int) × Int := (joinV vs e.2, joinT ts e.1 e.2, 2)
def fliM (vs : List V3) (ts : List (List Int)) (e : E2) : List V3 × List (List Int) × Int := (vs, flipT ts e.1 e.2, 3)
def mendM (vs : List V3) (ts : List (List Int)) (sh lo : Nat) : List V3 × List (List Int) × Int :=
 match longE vs ts lo with
 | some e => splM vs ts e
 | none => match shortE vs ts sh with
  | some e => joiM vs ts e
  | none => match flipE vs ts with
   | some e => fliM vs ts e
   | none => (vs, ts, 0)
def mendR (sh lo : Nat) : Nat → List V3 → List (List Int) → List Int → List V3 × List (List Int) × List Int
 | 0, vs, ts, acts => (vs, ts, acts)
 | r + 1, vs, ts, acts => if (mendM vs ts sh lo).2.2 = 0 then (vs, ts, acts) else mendR sh lo r (mendM vs ts sh lo).1 (mendM vs ts sh lo).2.1 (acts ++ [(mendM vs ts sh lo).2.2])
def goodM (vs : List V3) (ts : List (List Int)) : Bool := validP vs.length ts && sheetP ts
def okM (vs : List V3) (ts : List (List Int)) (sh lo : Nat) : Bool := goodM vs ts && (finP sh && finP lo)
noncomputable def F500 : List D → Option (List D)
 | [a, b, .flt x, .flt y] => (dV a).bind fun vs => (dT b).bind fun ts => if szM vs ts ≤ 1048576 then some (if okM vs ts x y = true then [vl (mendM vs ts x y).1, tl (mendM vs ts x y).2.1, .int (mendM vs ts x y).2.2, .bool true] else [vl [], tl [], .int 0, .bool false]) else none
 | _ => none
theorem F500_m {vs : List V3} {ts : List (List Int)} {x y : Nat} (h : szM vs ts ≤ 1048576) : F500 [vl vs, tl ts, .flt x, .flt y] = some (if okM vs ts x y = true then [vl (mendM vs ts x y).1, tl (mendM vs ts x y).2.1, .int (mendM vs ts x y).2.2, .bool true] else [vl [], tl [], .int 0, .bool false]) := by
 simp only [F500, dV_vl, dT_tl, Option.bind_some]
 rw [if_pos h]
noncomputable def F504 : List D → Option (List D)
 | [a, b, .flt x, .flt y, .int n] => (dV a).bind fun vs => (dT b).bind fun ts => if szM vs ts ≤ 1048576 then some (if (okM vs ts x y && inr 65 n) = true then [vl (mendR x y n.toNat vs ts []).1, tl (mendR x y n.toNat vs ts []).2.1, il (mendR x y n.toNat vs ts []).2.2, .bool true] else [vl [], tl [], il [], .bool false]) else none
 | _ => none
theorem F504_m {vs : List V3} {ts : List (List Int)} {x y : Nat} {n : Int} (h : szM vs ts ≤ 1048576) : F504 [vl vs, tl ts, .flt x, .flt y, .int n] = some (if (okM vs ts x y && inr 65 n) = true then [vl (mendR x y n.toNat vs ts []).1, tl (mendR x y n.toNat vs ts []).2.1, il (mendR x y n.toNat vs ts []).2.2, .bool true] else [vl [], tl [], il [], .bool false]) := by
 simp only [F504, dV_vl, dT_tl, Option.bind_some]
 rw [if_pos h]
def T500 : T :=
(cc 403 [0, 1] 1 <|
oo .bnot [4] <|
oN 5 .id [2] <|
cN 5 1 [6] 1 <|
oN 5 .bnot [7] <|
oo .pick [5, kT, 8] <|
oN 9 .id [3] <|
cN 9 1 [10] 1 <|
oN 9 .bnot [11] <|
oo .pick [9, kT, 12] <|
.ite 13
 (.out 0 [kL, kL, (.c (.int 0)), kN])
 (cc 434 [0, 1] 3 <|
 oT 16 .id [15] <|
 oT 16 .id [3] <|
 oT 16 (.fcm .gtr .f32) [17, 18] <|
 oo .pick [16, 19, kN] <|
 .join 0
  (.ite 20
   (oo .idx [14, kI 0] <|
   oo .idx [14, kI 0] <|
   oo .idx [14, kI 1] <|
   oo .idx [14, kI 1] <|
   cc 422 [0, 1, 22, 24, kF 1056964608] 3 <|
   .ite 27
    (.out 1 [25, 26, kI 1, kT])
    (.out 0 []))
   (.out 0 []))
 (cc 435 [0, 1] 3 <|
 oT 23 .id [22] <|
 oT 23 .id [2] <|
 oT 23 (.fcm .lss .f32) [24, 25] <|
 oo .pick [23, 26, kN] <|
 .join 0
  (.ite 27
   (oo .idx [21, kI 0] <|
   oo .idx [21, kI 0] <|
   oo .idx [21, kI 1] <|
   oo .idx [21, kI 1] <|
   cc 444 [0, 1, 29, 31] 3 <|
   .ite 34
    (.out 1 [32, 33, kI 2, kT])
    (.out 0 []))
   (.out 0 []))
 (cc 436 [0, 1] 3 <|
 oT 30 .id [29] <|
 oT 30 (.fcm .gtr .f32) [31, kF 0] <|
 oo .pick [30, 32, kN] <|
 .join 0
  (.ite 33
   (oo .idx [28, kI 0] <|
   oo .idx [28, kI 0] <|
   oo .idx [28, kI 1] <|
   oo .idx [28, kI 1] <|
   cc 421 [0, 1, 35, 37] 3 <|
   .ite 40
    (.out 1 [38, 39, kI 3, kT])
    (.out 0 []))
   (.out 0 []))
 (cc 151 [0, 1] 2 <|
 .out 0 [34, 35, kI 0, kT])))))
def S500 (G : Told) (_fuel : Nat) (x0 x1 x2 x3 : D) : Option (Nat × List D) :=
 (gcall G none 403 [x0, x1] 1).bind fun e4 =>
 (gev none .bnot [e4.getD 0 .undef]).bind fun x5 =>
 (gev (some (x5, false)) .id [x2]).bind fun x6 =>
 (gcall G (some (x5, false)) 1 [x6] 1).bind fun e7 =>
 (gev (some (x5, false)) .bnot [e7.getD 0 .undef]).bind fun x8 =>
 (gev none .pick [x5, .bool true, x8]).bind fun x9 =>
 (gev (some (x9, false)) .id [x3]).bind fun x10 =>
 (gcall G (some (x9, false)) 1 [x10] 1).bind fun e11 =>
 (gev (some (x9, false)) .bnot [e11.getD 0 .undef]).bind fun x12 =>
 (gev none .pick [x9, .bool true, x12]).bind fun x13 =>
 tif x13 (
  some (0, [(.lst []), (.lst []), (.int 0), (.bool false)])) (
  (gcall G none 434 [x0, x1] 3).bind fun e14 =>
  (gev (some ((e14.getD 2 .undef), true)) .id [e14.getD 1 .undef]).bind fun x17 =>
  (gev (some ((e14.getD 2 .undef), true)) .id [x3]).bind fun x18 =>
  (gev (some ((e14.getD 2 .undef), true)) (.fcm .gtr .f32) [x17, x18]).bind fun x19 =>
  (gev none .pick [e14.getD 2 .undef, x19, .bool false]).bind fun x20 =>
  tjoin 0 (
   tif x20 (
    (gev none .idx [e14.getD 0 .undef, .int 0]).bind fun _x21 =>
    (gev none .idx [e14.getD 0 .undef, .int 0]).bind fun x22 =>
    (gev none .idx [e14.getD 0 .undef, .int 1]).bind fun _x23 =>
    (gev none .idx [e14.getD 0 .undef, .int 1]).bind fun x24 =>
    (gcall G none 422 [x0, x1, x22, x24, .flt 1056964608] 3).bind fun e25 =>
    tif (e25.getD 2 .undef) (
     some (1, [e25.getD 0 .undef, e25.getD 1 .undef, .int 1, .bool true])) (
     some (0, []))) (
    some (0, []))) fun _ =>
  (gcall G none 435 [x0, x1] 3).bind fun e21 =>
  (gev (some ((e21.getD 2 .undef), true)) .id [e21.getD 1 .undef]).bind fun x24 =>
  (gev (some ((e21.getD 2 .undef), true)) .id [x2]).bind fun x25 =>
  (gev (some ((e21.getD 2 .undef), true)) (.fcm .lss .f32) [x24, x25]).bind fun x26 =>
  (gev none .pick [e21.getD 2 .undef, x26, .bool false]).bind fun x27 =>
  tjoin 0 (
   tif x27 (
    (gev none .idx [e21.getD 0 .undef, .int 0]).bind fun _x28 =>
    (gev none .idx [e21.getD 0 .undef, .int 0]).bind fun x29 =>
    (gev none .idx [e21.getD 0 .undef, .int 1]).bind fun _x30 =>
    (gev none .idx [e21.getD 0 .undef, .int 1]).bind fun x31 =>
    (gcall G none 444 [x0, x1, x29, x31] 3).bind fun e32 =>
    tif (e32.getD 2 .undef) (
     some (1, [e32.getD 0 .undef, e32.getD 1 .undef, .int 2, .bool true])) (
     some (0, []))) (
    some (0, []))) fun _ =>
  (gcall G none 436 [x0, x1] 3).bind fun e28 =>
  (gev (some ((e28.getD 2 .undef), true)) .id [e28.getD 1 .undef]).bind fun x31 =>
  (gev (some ((e28.getD 2 .undef), true)) (.fcm .gtr .f32) [x31, .flt 0]).bind fun x32 =>
  (gev none .pick [e28.getD 2 .undef, x32, .bool false]).bind fun x33 =>
  tjoin 0 (
   tif x33 (
    (gev none .idx [e28.getD 0 .undef, .int 0]).bind fun _x34 =>
    (gev none .idx [e28.getD 0 .undef, .int 0]).bind fun x35 =>
    (gev none .idx [e28.getD 0 .undef, .int 1]).bind fun _x36 =>
    (gev none .idx [e28.getD 0 .undef, .int 1]).bind fun x37 =>
    (gcall G none 421 [x0, x1, x35, x37] 3).bind fun e38 =>
    tif (e38.getD 2 .undef) (
     some (1, [e38.getD 0 .undef, e38.getD 1 .undef, .int 3, .bool true])) (
     some (0, []))) (
    some (0, []))) fun _ =>
  (gcall G none 151 [x0, x1] 2).bind fun e34 =>
  some (0, [e34.getD 0 .undef, e34.getD 1 .undef, .int 0, .bool true]))
theorem eq500 {G fuel} (x0 x1 x2 x3) : run G fuel T500 [x0, x1, x2, x3] = S500 G fuel x0 x1 x2 x3 := by rw [run_eq]; kernel_rfl
def T504 : T :=
(cc 403 [0, 1] 1 <|
oo .bnot [5] <|
oN 6 .id [2] <|
cN 6 1 [7] 1 <|
oN 6 .bnot [8] <|
oo .pick [6, kT, 9] <|
oN 10 .id [3] <|
cN 10 1 [11] 1 <|
oN 10 .bnot [12] <|
oo .pick [10, kT, 13] <|
oN 14 .id [4] <|
cN 14 19 [15, kI 0, kI 64] 1 <|
oN 14 .bnot [16] <|
oo .pick [14, kT, 17] <|
.ite 18
 (.out 0 [kL, kL, kL, kN])
 (cc 151 [0, 1] 2 <|
 oo .mklst [] <|
 .join 5
  (.loop [19, 20, 21, kI 0]
   (oo (.icm .lss) [25, 4] <|
   .ite 26
    (cc 500 [22, 23, 2, 3] 4 <|
    oo .bnot [30] <|
    .ite 31
     (.out 2 [kL, kL, kL, kN])
     (oo (.icm .eql) [29, kI 0] <|
     .ite 32
      (.out 1 [22, 23, 24, 25, 26])
      (oo .mklst [29] <|
      oo .app [24, 33] <|
      oo (.iar .add .i64) [25, kI 1] <|
      .out 0 [27, 28, 34, 35])))
    (.out 1 [22, 23, 24, 25, 26])))
 (.out 0 [22, 23, 24, kT])))
def S504L0 (G : Told) (x2 : D) (x3 : D) (x4 : D) : List D → Option (Nat × List D) := fun e22 =>
    (gev none (.icm .lss) [e22.getD 3 .undef, x4]).bind fun x26 =>
    tif x26 (
     (gcall G none 500 [e22.getD 0 .undef, e22.getD 1 .undef, x2, x3] 4).bind fun e27 =>
     (gev none .bnot [e27.getD 3 .undef]).bind fun x31 =>
     tif x31 (
      some (2, [(.lst []), (.lst []), (.lst []), (.bool false)])) (
      (gev none (.icm .eql) [e27.getD 2 .undef, .int 0]).bind fun x32 =>
      tif x32 (
       some (1, [e22.getD 0 .undef, e22.getD 1 .undef, e22.getD 2 .undef, e22.getD 3 .undef, x26])) (
       (gev none .mklst [e27.getD 2 .undef]).bind fun x33 =>
       (gev none .app [e22.getD 2 .undef, x33]).bind fun x34 =>
       (gev none (.iar .add .i64) [e22.getD 3 .undef, .int 1]).bind fun x35 =>
       some (0, [e27.getD 0 .undef, e27.getD 1 .undef, x34, x35])))) (
     some (1, [e22.getD 0 .undef, e22.getD 1 .undef, e22.getD 2 .undef, e22.getD 3 .undef, x26]))
def S504 (G : Told) (fuel : Nat) (x0 x1 x2 x3 x4 : D) : Option (Nat × List D) :=
 (gcall G none 403 [x0, x1] 1).bind fun e5 =>
 (gev none .bnot [e5.getD 0 .undef]).bind fun x6 =>
 (gev (some (x6, false)) .id [x2]).bind fun x7 =>
 (gcall G (some (x6, false)) 1 [x7] 1).bind fun e8 =>
 (gev (some (x6, false)) .bnot [e8.getD 0 .undef]).bind fun x9 =>
 (gev none .pick [x6, .bool true, x9]).bind fun x10 =>
 (gev (some (x10, false)) .id [x3]).bind fun x11 =>
 (gcall G (some (x10, false)) 1 [x11] 1).bind fun e12 =>
 (gev (some (x10, false)) .bnot [e12.getD 0 .undef]).bind fun x13 =>
 (gev none .pick [x10, .bool true, x13]).bind fun x14 =>
 (gev (some (x14, false)) .id [x4]).bind fun x15 =>
 (gcall G (some (x14, false)) 19 [x15, .int 0, .int 64] 1).bind fun e16 =>
 (gev (some (x14, false)) .bnot [e16.getD 0 .undef]).bind fun x17 =>
 (gev none .pick [x14, .bool true, x17]).bind fun x18 =>
 tif x18 (
  some (0, [(.lst []), (.lst []), (.lst []), (.bool false)])) (
  (gcall G none 151 [x0, x1] 2).bind fun e19 =>
  (gev none .mklst []).bind fun x21 =>
  tjoin 5 (
   iter (tbody 4 (S504L0 G x2 x3 x4)) fuel [e19.getD 0 .undef, e19.getD 1 .undef, x21, .int 0]) fun e22 =>
  some (0, [e22.getD 0 .undef, e22.getD 1 .undef, e22.getD 2 .undef, .bool true]))
theorem eq504 {G fuel} (x0 x1 x2 x3 x4) : run G fuel T504 [x0, x1, x2, x3, x4] = S504 G fuel x0 x1 x2 x3 x4 := by rw [run_eq]; kernel_rfl
theorem edg_ok {n : Nat} {ts : List (List Int)} (hv : validP n ts = true) {j : Nat} (hj : j < (edgL ts n).length) : okP n ts ((edgL ts n).getD j (0, 0)).1 ((edgL ts n).getD j (0, 0)).2 = true := by
 have hm : (edgL ts n).getD j (0, 0) ∈ edgL ts n := by rw [List.getD_eq_getElem?_getD, List.getElem?_eq_getElem hj];exact List.getElem_mem hj
 generalize (edgL ts n).getD j (0, 0) = e at hm
 obtain ⟨a, b, ha, hb, hab, _, rfl⟩ := (edgN_mem ts n n e).1 hm
 unfold okP inr
 rw [hv]
 simp
 omega
theorem good_ok {vs : List V3} {ts : List (List Int)} (h : goodM vs ts = true) : validP vs.length ts = true ∧ sheetP ts = true := by
 unfold goodM at h
 simpa using h
theorem szM_good {vs : List V3} {ts : List (List Int)} (h : validP vs.length ts = true) : szM vs ts ≤ 1048576 := by
 obtain ⟨h1, h2⟩ := valid_len h
 unfold szM
 rw [totL_all (tri3 h)]
 omega
theorem ok_pair {n : Nat} {ts : List (List Int)} {p q : Int} (hs : sheetP ts = true) (h : okP n ts p q = true) : pairP n ts p q = true := by
 unfold okP at h
 unfold pairP
 rw [Bool.and_eq_true] at h
 rw [h.1, hs]
 simpa using h.2
theorem bstE_at {es : List E2} {st : Option (Nat × Nat)} {cmp : Nat → Bool} {ok : E2 → Bool} {e : E2} (h : bstE es st cmp ok = some e) : ∃ j v, st = some (j, v) ∧ es.getD j (0, 0) = e ∧ cmp v = true ∧ ok e = true := by
 unfold bstE at h
 obtain ⟨⟨j, v⟩, h1, h2⟩ := Option.bind_eq_some_iff.1 h
 split at h2
 ·rename_i hh
  simp only [Option.some.injEq] at h2;subst h2;rw [Bool.and_eq_true] at hh;exact ⟨j, v, h1, rfl, hh.1, hh.2⟩
 ·cases h2
theorem mend_good {vs : List V3} {ts : List (List Int)} {x y : Nat} (h : goodM vs ts = true) : goodM (mendM vs ts x y).1 (mendM vs ts x y).2.1 = true := by
 obtain ⟨hv, hs⟩ := good_ok h
 unfold mendM
 split
 ·rename_i e he
  obtain ⟨_, _, _, _, _, hg⟩ := bstE_at he;unfold goodS at hg;unfold goodM splM;rw [Bool.and_eq_true] at hg;simpa using hg.2
 ·split
  ·rename_i e he
   obtain ⟨j, v, h1, rfl, _, hg⟩ := bstE_at he;obtain ⟨_, hp, hq, hpq⟩ := okP_ok (edg_ok hv (bstN_lt h1));rw [okJ_eq] at hg;simp only [Bool.and_eq_true] at hg;unfold goodM joiM;simp only [joinV_len hq, valid_join hv hp hq hpq, hg.2.2.1, Bool.and_self]
  ·split
   ·rename_i e he
    obtain ⟨j, v, h1, rfl, _, hg⟩ := bstE_at he;obtain ⟨_, _, _, hpq⟩ := okP_ok (edg_ok hv (bstN_lt h1));unfold goodM fliM;simp only [flip_valid hv hs hpq hg, flip_sheet hv hs hpq hg, Bool.and_self]
   ·exact h
theorem in19 (n : Int) : F19 [.int n, .int 0, .int 64] = some [.bool (inr 65 n)] := rfl
theorem ilnil : D.lst [] = il [] := rfl
attribute [local irreducible] IntKind.wrap il tl vl bo mpD kD edl inr validP sheetP atL edgL okJ pairP joinT joinV twinB eulP goodS flipB mendM okM goodM bstN

theorem mend_stage {G : Told} {k m : Nat} {a1 : List D} {ar : D → D → List D} {cm : Prim} {lim : Nat} {cmp : Nat → Bool} {ok : E2 → Bool} {A B : E2 → D} {out : D → D → List D} {K : Option (Nat × List D)} {es : List E2} {st : Option (Nat × Nat)}
  (hc : ∀ v, gev none cm [.flt v, .flt lim] = some (.bool (cmp v)))
  (h1 : gcall G none k a1 3 = some (bstR es st))
  (h2 : ∀ j v, st = some (j, v) → gcall G none m (ar (.int (es.getD j (0, 0)).1) (.int (es.getD j (0, 0)).2)) 3 = some (if ok (es.getD j (0, 0)) = true then [A (es.getD j (0, 0)), B (es.getD j (0, 0)), .bool true] else [vl [], tl [], .bool false])) :
  ((gcall G none k a1 3).bind fun e14 =>
  (gev (some ((e14.getD 2 .undef), true)) .id [(e14.getD 1 .undef)]).bind fun x17 =>
  (gev (some ((e14.getD 2 .undef), true)) .id [.flt lim]).bind fun x18 =>
  (gev (some ((e14.getD 2 .undef), true)) cm [x17, x18]).bind fun x19 =>
  (gev none .pick [(e14.getD 2 .undef), x19, (.bool false)]).bind fun x20 =>
  tjoin 0 (
   tif x20 (
    (gev none .idx [(e14.getD 0 .undef), (.int 0)]).bind fun _ =>
    (gev none .idx [(e14.getD 0 .undef), (.int 0)]).bind fun x22 =>
    (gev none .idx [(e14.getD 0 .undef), (.int 1)]).bind fun _ =>
    (gev none .idx [(e14.getD 0 .undef), (.int 1)]).bind fun x24 =>
    (gcall G none m (ar x22 x24) 3).bind fun e25 =>
    tif (e25.getD 2 .undef) (
     some (1, out (e25.getD 0 .undef) (e25.getD 1 .undef))) (
     some (0, []))) (
    some (0, []))) fun _ => K) = match bstE es st cmp ok with | some e => some (0, out (A e) (B e)) | none => K := by
 rw [h1]
 cases st with
 | none => rfl
 | some s =>
  obtain ⟨j, v⟩ := s;have h2 := h2 j v rfl;obtain ⟨p, q, he⟩ : ∃ p q, es.getD j (0, 0) = (p, q) := ⟨_, _, rfl⟩;rw [he] at h2;have hb : bstE es (some (j, v)) cmp ok = if (cmp v && ok (p, q)) = true then some (p, q) else none := by unfold bstE;simp only [Option.bind_some, he]
  rw [bstR_some he, hb];have hv := hc v
  cases hcv : cmp v with
  | false =>
   rw [hcv] at hv;rw [Bool.false_and, if_neg (by simp)]
   simp only [ev0, hv, j_0, List.length_nil, if_true]
  | true =>
   rw [hcv] at hv;rw [Bool.true_and]
   cases hok : ok (p, q) with
   | false =>
    rw [hok, if_neg (by simp)] at h2
    rw [if_neg (by simp)]
    simp only [ev0, hv, p_j0, p_j1, h2, j_0, List.length_nil, if_true]
   | true =>
    rw [hok, if_pos rfl] at h2;rw [if_pos rfl];simp only [ev0, hv, p_j0, p_j1, h2, j_1]
theorem mend_stage0 {G : Told} {k m : Nat} {a1 : List D} {ar : D → D → List D} {cm : Prim} {lim : Nat} {cmp : Nat → Bool} {ok : E2 → Bool} {A B : E2 → D} {out : D → D → List D} {K : Option (Nat × List D)} {es : List E2} {st : Option (Nat × Nat)}
  (hc : ∀ v, gev none cm [.flt v, .flt lim] = some (.bool (cmp v)))
  (h1 : gcall G none k a1 3 = some (bstR es st))
  (h2 : ∀ j v, st = some (j, v) → gcall G none m (ar (.int (es.getD j (0, 0)).1) (.int (es.getD j (0, 0)).2)) 3 = some (if ok (es.getD j (0, 0)) = true then [A (es.getD j (0, 0)), B (es.getD j (0, 0)), .bool true] else [vl [], tl [], .bool false])) :
  ((gcall G none k a1 3).bind fun e14 =>
  (gev (some ((e14.getD 2 .undef), true)) .id [(e14.getD 1 .undef)]).bind fun x17 =>
  (gev (some ((e14.getD 2 .undef), true)) cm [x17, .flt lim]).bind fun x19 =>
  (gev none .pick [(e14.getD 2 .undef), x19, (.bool false)]).bind fun x20 =>
  tjoin 0 (
   tif x20 (
    (gev none .idx [(e14.getD 0 .undef), (.int 0)]).bind fun _ =>
    (gev none .idx [(e14.getD 0 .undef), (.int 0)]).bind fun x22 =>
    (gev none .idx [(e14.getD 0 .undef), (.int 1)]).bind fun _ =>
    (gev none .idx [(e14.getD 0 .undef), (.int 1)]).bind fun x24 =>
    (gcall G none m (ar x22 x24) 3).bind fun e25 =>
    tif (e25.getD 2 .undef) (
     some (1, out (e25.getD 0 .undef) (e25.getD 1 .undef))) (
     some (0, []))) (
    some (0, []))) fun _ => K) = match bstE es st cmp ok with | some e => some (0, out (A e) (B e)) | none => K := by
 rw [h1]
 cases st with
 | none => rfl
 | some s =>
  obtain ⟨j, v⟩ := s;have h2 := h2 j v rfl;obtain ⟨p, q, he⟩ : ∃ p q, es.getD j (0, 0) = (p, q) := ⟨_, _, rfl⟩;rw [he] at h2;have hb : bstE es (some (j, v)) cmp ok = if (cmp v && ok (p, q)) = true then some (p, q) else none := by unfold bstE;simp only [Option.bind_some, he]
  rw [bstR_some he, hb];have hv := hc v
  cases hcv : cmp v with
  | false =>
   rw [hcv] at hv;rw [Bool.false_and, if_neg (by simp)]
   simp only [ev0, hv, j_0, List.length_nil, if_true]
  | true =>
   rw [hcv] at hv;rw [Bool.true_and]
   cases hok : ok (p, q) with
   | false =>
    rw [hok, if_neg (by simp)] at h2
    rw [if_neg (by simp)]
    simp only [ev0, hv, p_j0, p_j1, h2, j_0, List.length_nil, if_true]
   | true =>
    rw [hok, if_pos rfl] at h2;rw [if_pos rfl];simp only [ev0, hv, p_j0, p_j1, h2, j_1]
theorem run500 {G : Told} (g403 : G 403 = F403) (g1 : G 1 = F1) (g434 : G 434 = F434) (g422 : G 422 = F422) (g435 : G 435 = F435) (g444 : G 444 = F444) (g436 : G 436 = F436) (g421 : G 421 = F421) (g151 : G 151 = F151) : Runs G F500 T500 := by
 intro ds rs h
 unfold F500 at h
 split at h
 case h_2 => cases h
 rename_i a b x y
 obtain ⟨vs, ha, h⟩ := Option.bind_eq_some_iff.1 h
 obtain ⟨ts, hb, h⟩ := Option.bind_eq_some_iff.1 h
 rw [dV_inv ha, dT_inv hb]
 split at h
 case isFalse => cases h
 rename_i hc
 simp only [Option.some.injEq] at h
 subst h
 clear ha
 clear hb
 refine ⟨0, ?_⟩
 rw [eq500]
 unfold S500
 have c1 : gcall G none 403 [vl vs, tl ts] 1 = some [.bool (goodM vs ts)] := gcall_on g403 rfl (by rw [F403_m hc]; unfold goodM; rfl) rfl
 have c2 : gcall G none 1 [.flt x] 1 = some [.bool (finP x)] := gcall_on g1 rfl rfl rfl
 have c3 : gcall G none 1 [.flt y] 1 = some [.bool (finP y)] := gcall_on g1 rfl rfl rfl
 have e : okM vs ts x y = (goodM vs ts && (finP x && finP y)) := by unfold okM; rfl
 rw [e]
 cases hg : goodM vs ts with
 | false =>
  rw [hg] at c1;rw [Bool.false_and, if_neg (by simp), ← vlnil, ← tlnil]
  simp only [ev0, List.replicate, c1]
 | true =>
 rw [hg] at c1
 rw [Bool.true_and]
 cases hx : finP x with
 | false =>
  rw [hx] at c2;rw [Bool.false_and, if_neg (by simp), ← vlnil, ← tlnil]
  simp only [ev0, List.replicate, c1, c2]
 | true =>
 rw [hx] at c2
 rw [Bool.true_and]
 cases hy : finP y with
 | false =>
  rw [hy] at c3;rw [if_neg (by simp), ← vlnil, ← tlnil]
  simp only [ev0, c1, c2, c3]
 | true =>
 rw [hy] at c3
 rw [if_pos rfl]
 obtain ⟨hv, hs⟩ := good_ok hg
 have hcp : gcall G none 151 [vl vs, tl ts] 2 = some [vl vs, tl ts] := gcall_on g151 rfl (F145_m hc) rfl
 have l1 : gcall G none 434 [vl vs, tl ts] 3 = some (bstR (edgL ts vs.length) (bstL vs ts true)) := gcall_on g434 rfl (by rw [F434_m hc, if_pos hv]; unfold bstP; rfl) (by generalize bstL _ _ _ = z; cases z <;> rfl)
 have l2 : gcall G none 435 [vl vs, tl ts] 3 = some (bstR (edgL ts vs.length) (bstL vs ts false)) := gcall_on g435 rfl (by rw [F435_m hc, if_pos hv]; unfold bstP; rfl) (by generalize bstL _ _ _ = z; cases z <;> rfl)
 have l3 : gcall G none 436 [vl vs, tl ts] 3 = some (bstR (edgL ts vs.length) (bstF vs ts)) := gcall_on g436 rfl (by rw [F436_m hc, hv, hs, Bool.and_self, if_pos rfl]; unfold bstP; rfl) (by generalize bstF _ _ = z; cases z <;> rfl)
 have s1 : ∀ j v, bstL vs ts true = some (j, v) → gcall G none 422 [vl vs, tl ts, .int ((edgL ts vs.length).getD j (0, 0)).1, .int ((edgL ts vs.length).getD j (0, 0)).2, .flt 1056964608] 3 = some (if goodS vs.length ts ((edgL ts vs.length).getD j (0, 0)).1 ((edgL ts vs.length).getD j (0, 0)).2 = true then [vl (splM vs ts ((edgL ts vs.length).getD j (0, 0))).1, tl (splM vs ts ((edgL ts vs.length).getD j (0, 0))).2.1, .bool true] else [vl [], tl [], .bool false]) := fun j v h => by have hok := edg_ok hv (bstN_lt h);exact gcall_on g422 rfl (by rw [F422_m hc, ok_pair hs hok, show sharP 1056964608 = true by decide +kernel, Bool.true_and, Bool.true_and]; rfl) (by split <;> rfl)
 have s2 : ∀ j v, bstL vs ts false = some (j, v) → gcall G none 444 [vl vs, tl ts, .int ((edgL ts vs.length).getD j (0, 0)).1, .int ((edgL ts vs.length).getD j (0, 0)).2] 3 = some (if okJ vs.length ts ((edgL ts vs.length).getD j (0, 0)).1 ((edgL ts vs.length).getD j (0, 0)).2 = true then [vl (joiM vs ts ((edgL ts vs.length).getD j (0, 0))).1, tl (joiM vs ts ((edgL ts vs.length).getD j (0, 0))).2.1, .bool true] else [vl [], tl [], .bool false]) := fun j v h => by have hok := edg_ok hv (bstN_lt h);exact gcall_on g444 rfl (by rw [F444_m hc, ok_pair hs hok, Bool.true_and]; rfl) (by split <;> rfl)
 have s3 : ∀ j v, bstF vs ts = some (j, v) → gcall G none 421 [vl vs, tl ts, .int ((edgL ts vs.length).getD j (0, 0)).1, .int ((edgL ts vs.length).getD j (0, 0)).2] 3 = some (if flipB ts ((edgL ts vs.length).getD j (0, 0)).1 ((edgL ts vs.length).getD j (0, 0)).2 = true then [vl (fliM vs ts ((edgL ts vs.length).getD j (0, 0))).1, tl (fliM vs ts ((edgL ts vs.length).getD j (0, 0))).2.1, .bool true] else [vl [], tl [], .bool false]) := fun j v h => by have hok := edg_ok hv (bstN_lt h);exact gcall_on g421 rfl (by rw [F421_m hc, ok_pair hs hok, Bool.true_and]; rfl) (by split <;> rfl)
 simp only [ev0, c1, c2, c3]
 refine (mend_stage (out := fun a b => [a, b, .int 1, .bool true]) (ar := fun a b => [vl vs, tl ts, a, b, .flt 1056964608]) (cmp := fun v => fgt .f32 v y) (ok := fun e => goodS vs.length ts e.1 e.2) (A := fun e => vl (splM vs ts e).1) (B := fun e => tl (splM vs ts e).2.1) (fun _ => p_fgtr) l1 s1).trans ?_
 unfold mendM longE
 cases bstE (edgL ts vs.length) (bstL vs ts true) (fun v => fgt .f32 v y) (fun e => goodS vs.length ts e.1 e.2) with
 | some e => rfl
 | none =>
  refine (mend_stage (out := fun a b => [a, b, .int 2, .bool true]) (ar := fun a b => [vl vs, tl ts, a, b]) (cmp := fun v => flt .f32 v x) (ok := fun e => okJ vs.length ts e.1 e.2) (A := fun e => vl (joiM vs ts e).1) (B := fun e => tl (joiM vs ts e).2.1) (fun _ => p_flss) l2 s2).trans ?_
  unfold shortE
  cases bstE (edgL ts vs.length) (bstL vs ts false) (fun v => flt .f32 v x) (fun e => okJ vs.length ts e.1 e.2) with
  | some e => rfl
  | none =>
   refine (mend_stage0 (out := fun a b => [a, b, .int 3, .bool true]) (ar := fun a b => [vl vs, tl ts, a, b]) (cmp := fun v => fgt .f32 v 0) (ok := fun e => flipB ts e.1 e.2) (A := fun e => vl (fliM vs ts e).1) (B := fun e => tl (fliM vs ts e).2.1) (fun _ => p_fgtr) l3 s3).trans ?_
   unfold flipE
   cases bstE (edgL ts vs.length) (bstF vs ts) (fun v => fgt .f32 v 0) (fun e => flipB ts e.1 e.2) with
   | some e => rfl
   | none => simp only [ev0, hcp]
attribute [local irreducible] szM totL mendR tif tjoin

theorem loop504 {G : Told} (g500 : G 500 = F500) {x y : Nat} {n : Int} (hn : n ≤ 64) (hx : finP x = true) (hy : finP y = true) : ∀ (r : Nat) (vs : List V3) (ts : List (List Int)) (acts : List Int) (i : Nat), (i : Int) + r = n → acts.length + r ≤ 64 → goodM vs ts = true →
  ∃ tl2 : List D, tl2.length = 2 ∧ iter (tbody 4 (S504L0 G (.flt x) (.flt y) (.int n))) (r + 1) [vl vs, tl ts, il acts, .int (i : Int)] = some (0, vl (mendR x y r vs ts acts).1 :: tl (mendR x y r vs ts acts).2.1 :: il (mendR x y r vs ts acts).2.2 :: tl2)
 | 0, vs, ts, acts, i, hi, hl, hg => by
  have h0 : decide ((i : Int) < n) = false := by simp; omega
  have e : mendR x y 0 vs ts acts = (vs, ts, acts) := by rw [mendR]
  rw [e]
  exact ⟨[.int (i : Int), .bool false], rfl, iter_end (l := 0) (ds' := vl vs :: tl ts :: il acts :: [.int (i : Int), .bool false]) (tb rfl (by
   unfold S504L0
   simp only [ev0, h0])) rfl⟩
 | r + 1, vs, ts, acts, i, hi, hl, hg => by
  have h0 : decide ((i : Int) < n) = true := by simp; omega
  have c0 : gcall G none 500 [vl vs, tl ts, .flt x, .flt y] 4 = some [vl (mendM vs ts x y).1, tl (mendM vs ts x y).2.1, .int (mendM vs ts x y).2.2, .bool true] := gcall_on g500 rfl (by rw [F500_m (szM_good (good_ok hg).1), show okM vs ts x y = true by unfold okM; rw [hg, hx, hy]; rfl, if_pos rfl]) rfl
  have hw : IntKind.wrap .i64 ((i : Int) + 1) = ((i + 1 : Nat) : Int) := by rw [wrap_id (by omega) (by omega)]; simp
  have hap : ∀ v : Int, gev none .app [il acts, il [v]] = some (il (acts ++ [v])) := fun v => app_il1 (by omega)
  by_cases ha : (mendM vs ts x y).2.2 = 0
  ·have hb : ((mendM vs ts x y).2.2 == 0) = true := by simpa using ha
   have e : mendR x y (r + 1) vs ts acts = (vs, ts, acts) := by rw [mendR, if_pos ha]
   rw [e]
   exact ⟨[.int (i : Int), .bool true], rfl, iter_end (l := 0) (ds' := vl vs :: tl ts :: il acts :: [.int (i : Int), .bool true]) (tb rfl (by
    unfold S504L0
    simp only [ev0, h0, c0, hb])) rfl⟩
  ·have hb : ((mendM vs ts x y).2.2 == 0) = false := by simpa using ha
   have e : mendR x y (r + 1) vs ts acts = mendR x y r (mendM vs ts x y).1 (mendM vs ts x y).2.1 (acts ++ [(mendM vs ts x y).2.2]) := by rw [mendR, if_neg ha]
   rw [e];obtain ⟨tl2, h2, hit⟩ := loop504 g500 hn hx hy r _ _ (acts ++ [(mendM vs ts x y).2.2]) (i + 1) (by omega) (by simp; omega) (mend_good (x := x) (y := y) hg)
   refine ⟨tl2, h2, iter_go (tb rfl ?_) hit⟩;unfold S504L0;simp only [ev0, h0, c0, hb, p_il1, hap, p_add, hw]
theorem run504 {G : Told} (g403 : G 403 = F403) (g1 : G 1 = F1) (g19 : G 19 = F19) (g151 : G 151 = F151) (g500 : G 500 = F500) : Runs G F504 T504 := by
 intro ds rs h
 unfold F504 at h
 split at h
 case h_2 => cases h
 rename_i a b x y n
 obtain ⟨vs, ha, h⟩ := Option.bind_eq_some_iff.1 h
 obtain ⟨ts, hb, h⟩ := Option.bind_eq_some_iff.1 h
 rw [dV_inv ha, dT_inv hb]
 split at h
 case isFalse => cases h
 rename_i hc
 simp only [Option.some.injEq] at h
 subst h
 clear ha
 clear hb
 refine ⟨n.toNat + 1, ?_⟩
 rw [eq504]
 unfold S504
 have c1 : gcall G none 403 [vl vs, tl ts] 1 = some [.bool (goodM vs ts)] := gcall_on g403 rfl (by rw [F403_m hc]; unfold goodM; rfl) rfl
 have c2 : gcall G none 1 [.flt x] 1 = some [.bool (finP x)] := gcall_on g1 rfl rfl rfl
 have c3 : gcall G none 1 [.flt y] 1 = some [.bool (finP y)] := gcall_on g1 rfl rfl rfl
 have c4 : gcall G none 19 [.int n, .int 0, .int 64] 1 = some [.bool (inr 65 n)] := gcall_on g19 rfl (in19 n) rfl
 have e : okM vs ts x y = (goodM vs ts && (finP x && finP y)) := by unfold okM; rfl
 rw [e]
 have hcp : gcall G none 151 [vl vs, tl ts] 2 = some [vl vs, tl ts] := gcall_on g151 rfl (F145_m hc) rfl
 cases hg : goodM vs ts with
 | false =>
  rw [hg] at c1;rw [Bool.false_and, Bool.false_and, if_neg (by simp), ← vlnil, ← tlnil, ← ilnil]
  simp only [ev0, p_lst, List.replicate, c1]
 | true =>
 rw [hg] at c1
 rw [Bool.true_and]
 cases hx : finP x with
 | false =>
  rw [hx] at c2;rw [Bool.false_and, Bool.false_and, if_neg (by simp), ← vlnil, ← tlnil, ← ilnil]
  simp only [ev0, p_lst, List.replicate, c1, c2]
 | true =>
 rw [hx] at c2
 rw [Bool.true_and]
 cases hy : finP y with
 | false =>
  rw [hy] at c3;rw [Bool.false_and, if_neg (by simp), ← vlnil, ← tlnil, ← ilnil]
  simp only [ev0, p_lst, List.replicate, c1, c2, c3]
 | true =>
 rw [hy] at c3
 rw [Bool.true_and]
 cases hin : inr 65 n with
 | false =>
  rw [hin] at c4;rw [if_neg (by simp), ← vlnil, ← tlnil, ← ilnil]
  simp only [ev0, p_lst, c1, c2, c3, c4]
 | true =>
 rw [hin] at c4
 rw [if_pos rfl]
 have hn : 0 ≤ n ∧ n ≤ 64 := by unfold inr at hin; simp only [Bool.and_eq_true, decide_eq_true_eq] at hin; omega
 obtain ⟨tl2, h2, hit⟩ := loop504 g500 (x := x) (y := y) (n := n) hn.2 hx hy n.toNat vs ts [] 0 (by omega) (by simp; omega) hg
 match tl2, h2 with
 | [_, _], _ =>
  have hit : iter (tbody 4 (S504L0 G (.flt x) (.flt y) (.int n))) (n.toNat + 1) [vl vs, tl ts, il [], .int 0] = _ := hit;simp only [ev0, c1, c2, c3, c4, hcp, p_il0, hit, j_0, List.length_cons, List.length_nil, Nat.zero_add, Nat.reduceAdd, if_true]
end Vs
