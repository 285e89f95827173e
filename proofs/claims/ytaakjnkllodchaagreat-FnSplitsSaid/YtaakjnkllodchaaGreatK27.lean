/-
  Triangles at an edge, all edges out of a table, sheets by lists.
-/
import Derived.Test.YtaakjnkllodchaaGreatK26
set_option maxHeartbeats 4000000
namespace Vs
open Go Go.Sort
theorem F441_m {x y z p : Int} : F441 [il [x, y, z], .int p] = some [.bool ([x, y, z].contains p)] := rfl
theorem F407_m {x y z p q : Int} : F407 [il [x, y, z], .int p, .int q] = some [.bool (goesP [x, y, z] p q)] := rfl
theorem F408_m {x y z p q : Int} (h : thirdB x y z p q = true) : F408 [il [x, y, z], .int p, .int q] = some [.int (thirdP [x, y, z] p q)] := if_pos h
theorem F400_m {a b : Int} : F400 [.int a, .int b] = some [.int (min a b), .int (max a b)] := rfl
noncomputable def F411 : List D → Option (List D)
 | [_, b, .lst [.int p, .int q]] => (dT b).bind fun ts => if validP 64 ts = true then some [il (atL ts p q)] else none
 | _ => none
theorem F411_m {ts : List (List Int)} {a : D} {p q : Int} (h : validP 64 ts = true) : F411 [a, tl ts, il [p, q]] = some [il (atL ts p q)] := by
 show F411 [a, tl ts, .lst [.int p, .int q]] = _
 simp only [F411, dT_tl, Option.bind_some]
 rw [if_pos h]
def etl (es : List E2) : List (List Int) := es.map fun e => [e.1, e.2]
noncomputable def F413 : List D → Option (List D)
 | [a, b] => (dV a).bind fun vs => (dT b).bind fun ts => if validP vs.length ts = true then some [tl (etl (edgL ts vs.length))] else none
 | _ => none
theorem F413_m {vs : List V3} {ts : List (List Int)} (h : validP vs.length ts = true) : F413 [vl vs, tl ts] = some [tl (etl (edgL ts vs.length))] := by
 simp only [F413, dV_vl, dT_tl, Option.bind_some]
 rw [if_pos h]
def T411 : T :=
(oo .mklst [] <|
oo .len [1] <|
.join 3
 (.loop [3, kI 0]
  (oo (.icm .lss) [6, 4] <|
  .ite 7
   (oo .idx [1, 6] <|
   oo .len [2] <|
   .join 3
    (.loop [kT, kI 0]
     (oo (.icm .lss) [11, 9] <|
     .ite 12
      (oo .idx [2, 11] <|
      oT 10 .id [8] <|
      oT 10 .id [13] <|
      cT 10 441 [14, 15] 1 <|
      oo .pick [10, 16, kN] <|
      oo (.iar .add .i64) [11, kI 1] <|
      .out 0 [17, 18])
      (.out 1 [10, 11, 12])))
   (.join 1
    (.ite 10
     (oo .mklst [6] <|
     oo .app [5, 13] <|
     .out 0 [14])
     (.out 0 [5]))
   (oo (.iar .add .i64) [6, kI 1] <|
   .out 0 [13, 14])))
   (.out 1 [5, 6, 7])))
(.out 0 [5]))
def S411L0 (G : Told) (x2 : D) (x8 : D) (x9 : D) : List D → Option (Nat × List D) := fun e10 =>
      (gev none (.icm .lss) [e10.getD 1 .undef, x9]).bind fun x12 =>
      tif x12 (
       (gev none .idx [x2, e10.getD 1 .undef]).bind fun x13 =>
       (gev (some ((e10.getD 0 .undef), true)) .id [x8]).bind fun x14 =>
       (gev (some ((e10.getD 0 .undef), true)) .id [x13]).bind fun x15 =>
       (gcall G (some ((e10.getD 0 .undef), true)) 441 [x14, x15] 1).bind fun e16 =>
       (gev none .pick [e10.getD 0 .undef, e16.getD 0 .undef, .bool false]).bind fun x17 =>
       (gev none (.iar .add .i64) [e10.getD 1 .undef, .int 1]).bind fun x18 =>
       some (0, [x17, x18])) (
       some (1, [e10.getD 0 .undef, e10.getD 1 .undef, x12]))
def S411L1 (G : Told) (fuel : Nat) (x1 : D) (x2 : D) (x4 : D) : List D → Option (Nat × List D) := fun e5 =>
   (gev none (.icm .lss) [e5.getD 1 .undef, x4]).bind fun x7 =>
   tif x7 (
    (gev none .idx [x1, e5.getD 1 .undef]).bind fun x8 =>
    (gev none .len [x2]).bind fun x9 =>
    tjoin 3 (
     iter (tbody 2 (S411L0 G x2 x8 x9)) fuel [.bool true, .int 0]) fun e10 =>
    tjoin 1 (
     tif (e10.getD 0 .undef) (
      (gev none .mklst [e5.getD 1 .undef]).bind fun x13 =>
      (gev none .app [e5.getD 0 .undef, x13]).bind fun x14 =>
      some (0, [x14])) (
      some (0, [e5.getD 0 .undef]))) fun e13 =>
    (gev none (.iar .add .i64) [e5.getD 1 .undef, .int 1]).bind fun x14 =>
    some (0, [e13.getD 0 .undef, x14])) (
    some (1, [e5.getD 0 .undef, e5.getD 1 .undef, x7]))
def S411 (G : Told) (fuel : Nat) (_x0 x1 x2 : D) : Option (Nat × List D) :=
 (gev none .mklst []).bind fun x3 =>
 (gev none .len [x1]).bind fun x4 =>
 tjoin 3 (
  iter (tbody 2 (S411L1 G fuel x1 x2 x4)) fuel [x3, .int 0]) fun e5 =>
 some (0, [e5.getD 0 .undef])
theorem eq411 {G fuel} (x0 x1 x2) : run G fuel T411 [x0, x1, x2] = S411 G fuel x0 x1 x2 := by rw [run_eq]; kernel_rfl
def T413 : T :=
(oo .len [0] <|
oo (.iar .mul .i64) [2, 2] <|
oo .rep [3, kN] <|
.join 5
 (.loop [4, kI 0]
  (oo .len [1] <|
  oo (.icm .lss) [6, 7] <|
  .ite 8
   (oo .idx [1, 6] <|
   .join 4
    (.loop [5, kI 0]
     (oo (.icm .lss) [11, kI 3] <|
     .ite 12
      (oo .idx [9, 11] <|
      oo (.iar .add .i64) [11, kI 1] <|
      oo (.idv .rem .i64) [14, kI 3] <|
      oo .idx [9, 15] <|
      cc 453 [13, 16] 1 <|
      oo (.iar .mul .i64) [17, 2] <|
      cc 210 [13, 16] 1 <|
      oo (.iar .add .i64) [18, 19] <|
      oo .idx [10, 20] <|
      oo .set [10, 20, kT] <|
      oo (.iar .add .i64) [11, kI 1] <|
      .out 0 [22, 23])
      (.out 1 [10, 11, 11, 12])))
   (oo (.iar .add .i64) [6, kI 1] <|
   .out 0 [10, 14]))
   (.out 1 [5, 6, 6, 7, 8])))
(oo .mklst [] <|
.join 4
 (.loop [10, kI 0]
  (oo (.icm .lss) [12, 2] <|
  .ite 13
   (oo (.iar .add .i64) [12, kI 1] <|
   .join 4
    (.loop [11, 14]
     (oo (.icm .lss) [16, 2] <|
     .ite 17
      (oo (.iar .mul .i64) [12, 2] <|
      oo (.iar .add .i64) [18, 16] <|
      oo .idx [5, 19] <|
      oo .idx [5, 19] <|
      .join 1
       (.ite 21
        (oo .mklst [12, 16] <|
        oo .mklst [22] <|
        oo .app [15, 23] <|
        .out 0 [24])
        (.out 0 [15]))
      (oo (.iar .add .i64) [16, kI 1] <|
      .out 0 [22, 23]))
      (.out 1 [15, 16, 16, 17])))
   (oo (.iar .add .i64) [12, kI 1] <|
   .out 0 [15, 19]))
   (.out 1 [11, 12, 12, 13])))
(.out 0 [11])))
def S413L0 (_G : Told) (x2 : D) (e5 : List D) (e11 : List D) : List D → Option (Nat × List D) := fun e15 =>
      (gev none (.icm .lss) [e15.getD 1 .undef, x2]).bind fun x17 =>
      tif x17 (
       (gev none (.iar .mul .i64) [e11.getD 1 .undef, x2]).bind fun x18 =>
       (gev none (.iar .add .i64) [x18, e15.getD 1 .undef]).bind fun x19 =>
       (gev none .idx [e5.getD 0 .undef, x19]).bind fun _x20 =>
       (gev none .idx [e5.getD 0 .undef, x19]).bind fun x21 =>
       tjoin 1 (
        tif x21 (
         (gev none .mklst [e11.getD 1 .undef, e15.getD 1 .undef]).bind fun x22 =>
         (gev none .mklst [x22]).bind fun x23 =>
         (gev none .app [e15.getD 0 .undef, x23]).bind fun x24 =>
         some (0, [x24])) (
         some (0, [e15.getD 0 .undef]))) fun e22 =>
       (gev none (.iar .add .i64) [e15.getD 1 .undef, .int 1]).bind fun x23 =>
       some (0, [e22.getD 0 .undef, x23])) (
       some (1, [e15.getD 0 .undef, e15.getD 1 .undef, e15.getD 1 .undef, x17]))
def S413L1 (G : Told) (fuel : Nat) (x2 : D) (e5 : List D) : List D → Option (Nat × List D) := fun e11 =>
   (gev none (.icm .lss) [e11.getD 1 .undef, x2]).bind fun x13 =>
   tif x13 (
    (gev none (.iar .add .i64) [e11.getD 1 .undef, .int 1]).bind fun x14 =>
    tjoin 4 (
     iter (tbody 2 (S413L0 G x2 e5 e11)) fuel [e11.getD 0 .undef, x14]) fun e15 =>
    (gev none (.iar .add .i64) [e11.getD 1 .undef, .int 1]).bind fun x19 =>
    some (0, [e15.getD 0 .undef, x19])) (
    some (1, [e11.getD 0 .undef, e11.getD 1 .undef, e11.getD 1 .undef, x13]))
def S413L2 (G : Told) (x2 : D) (x9 : D) : List D → Option (Nat × List D) := fun e10 =>
      (gev none (.icm .lss) [e10.getD 1 .undef, .int 3]).bind fun x12 =>
      tif x12 (
       (gev none .idx [x9, e10.getD 1 .undef]).bind fun x13 =>
       (gev none (.iar .add .i64) [e10.getD 1 .undef, .int 1]).bind fun x14 =>
       (gev none (.idv .rem .i64) [x14, .int 3]).bind fun x15 =>
       (gev none .idx [x9, x15]).bind fun x16 =>
       (gcall G none 453 [x13, x16] 1).bind fun e17 =>
       (gev none (.iar .mul .i64) [e17.getD 0 .undef, x2]).bind fun x18 =>
       (gcall G none 210 [x13, x16] 1).bind fun e19 =>
       (gev none (.iar .add .i64) [x18, e19.getD 0 .undef]).bind fun x20 =>
       (gev none .idx [e10.getD 0 .undef, x20]).bind fun _x21 =>
       (gev none .set [e10.getD 0 .undef, x20, .bool true]).bind fun x22 =>
       (gev none (.iar .add .i64) [e10.getD 1 .undef, .int 1]).bind fun x23 =>
       some (0, [x22, x23])) (
       some (1, [e10.getD 0 .undef, e10.getD 1 .undef, e10.getD 1 .undef, x12]))
def S413L3 (G : Told) (fuel : Nat) (x1 : D) (x2 : D) : List D → Option (Nat × List D) := fun e5 =>
   (gev none .len [x1]).bind fun x7 =>
   (gev none (.icm .lss) [e5.getD 1 .undef, x7]).bind fun x8 =>
   tif x8 (
    (gev none .idx [x1, e5.getD 1 .undef]).bind fun x9 =>
    tjoin 4 (
     iter (tbody 2 (S413L2 G x2 x9)) fuel [e5.getD 0 .undef, .int 0]) fun e10 =>
    (gev none (.iar .add .i64) [e5.getD 1 .undef, .int 1]).bind fun x14 =>
    some (0, [e10.getD 0 .undef, x14])) (
    some (1, [e5.getD 0 .undef, e5.getD 1 .undef, e5.getD 1 .undef, x7, x8]))
def S413 (G : Told) (fuel : Nat) (x0 x1 : D) : Option (Nat × List D) :=
 (gev none .len [x0]).bind fun x2 =>
 (gev none (.iar .mul .i64) [x2, x2]).bind fun x3 =>
 (gev none .rep [x3, .bool false]).bind fun x4 =>
 tjoin 5 (
  iter (tbody 2 (S413L3 G fuel x1 x2)) fuel [x4, .int 0]) fun e5 =>
 (gev none .mklst []).bind fun x10 =>
 tjoin 4 (
  iter (tbody 2 (S413L1 G fuel x2 e5)) fuel [x10, .int 0]) fun e11 =>
 some (0, [e11.getD 0 .undef])
theorem eq413 {G fuel} (x0 x1) : run G fuel T413 [x0, x1] = S413 G fuel x0 x1 := by rw [run_eq]; kernel_rfl
attribute [local irreducible] IntKind.wrap il tl vl bo

theorem run411 {G : Told} (g441 : G 441 = F441) : Runs G F411 T411 := by
 intro ds rs h
 unfold F411 at h
 split at h
 case h_2 => cases h
 rename_i a b p q
 obtain ⟨ts, hb, h⟩ := Option.bind_eq_some_iff.1 h
 rw [dT_inv hb]
 split at h
 case isFalse => cases h
 rename_i hc
 simp only [Option.some.injEq] at h
 subst h
 clear hb
 have hT := triOk_of hc
 obtain ⟨_, h128⟩ := valid_len hc
 refine ⟨1000, ?_⟩
 rw [eq411]
 unfold S411
 have hl := len_tl (l := ts)
 have hl2 : gev none .len [.lst [.int p, .int q]] = some (.int 2) := rfl
 have i0 : gev none .idx [.lst [.int p, .int q], .int 0] = some (.int p) := rfl
 have i1 : gev none .idx [.lst [.int p, .int q], .int 1] = some (.int q) := rfl
 have d02 : decide ((0 : Int) < 2) = true := by decide
 have d12 : decide ((1 : Int) < 2) = true := by decide
 have d22 : decide ((2 : Int) < 2) = false := by decide
 have hit : iter (tbody 2 (S411L1 G 1000 (tl ts) (.lst [.int p, .int q]) (.int (ts.length : Int)))) 1000 [il [], .int 0] = some (0, [il (atL ts p q), .int (ts.length : Int), .bool false]) := by
  refine iter_to (body := tbody 2 (S411L1 G 1000 (tl ts) (.lst [.int p, .int q]) (.int (ts.length : Int)))) (n := ts.length) (f := 1000) (l := 0) (fun i => [il (atN ts p q i), .int (i : Int)]) (by omega) (fun i hi => ?_) ?_
  ·refine tb rfl ?_
   obtain ⟨x, y, z, ht, _⟩ := hT.at hi;have h0 : decide ((i : Int) < (ts.length : Int)) = true := by simpa using hi
   have hti := p_ti hi;rw [ht] at hti;have hadd := add1n (i := i) (by omega)
   have c1 : gcall G none 441 [il [x, y, z], .int p] 1 = some [.bool ([x, y, z].contains p)] := gcall_on g441 rfl F441_m rfl;have c2 : gcall G none 441 [il [x, y, z], .int q] 1 = some [.bool ([x, y, z].contains q)] := gcall_on g441 rfl F441_m rfl;have hal := atN_len ts p q i;have happ := app_il1 (l := atN ts p q i) (v := (i : Int)) (by omega)
   have hin : iter (tbody 2 (S411L0 G (.lst [.int p, .int q]) (il [x, y, z]) (.int 2))) 1000 [.bool true, .int 0] = some (0, [.bool ([x, y, z].contains p && [x, y, z].contains q), .int 2, .bool false]) := by
    refine itf (f := 3) ?_ (by omega)
    refine iter_go (ds' := [.bool ([x, y, z].contains p), .int 1]) (tb rfl ?_) ?_
    ·unfold S411L0
     simp only [ev0, p_add, d02, i0, c1, w01]
    refine iter_go (ds' := [.bool ([x, y, z].contains p && [x, y, z].contains q), .int 2]) (tb rfl ?_) ?_
    ·unfold S411L0
     generalize [x, y, z].contains p = cp at *
     cases cp <;> simp only [ev0, p_add, List.replicate, d12, i1, c2, w12, Bool.true_and, Bool.false_and]
    ·refine iter_end (l := 0) (tb rfl ?_) rfl
     unfold S411L0;simp only [ev0, p_add, Nat.zero_add, d22]
   simp only [atN, ht, hasB];generalize [x, y, z].contains p = cp at *;generalize [x, y, z].contains q = cq at *;unfold S411L1
   cases hcc : (cp && cq) <;> rw [hcc] at hin <;> simp only [ev0, j_0, List.length_cons, List.length_nil, Nat.zero_add, Nat.reduceAdd, if_true, p_il1, h0, hti, hl2, hin, happ, hadd, Bool.false_eq_true, if_false]
  ·refine tb rfl ?_
   have h0 : decide ((ts.length : Int) < (ts.length : Int)) = false := by simp
   unfold S411L1;simp only [ev0, p_add, p_lst, Nat.zero_add, h0];rfl
 simp only [j_0, Option.bind_some, List.getD_cons_zero, List.length_cons, List.length_nil, Nat.zero_add, Nat.reduceAdd, if_true, p_il0, hl, hit]
def keyN (n : Nat) (w : E2) : Nat := (min w.1 w.2 * n + max w.1 w.2).toNat
def tabN (n : Nat) (W : List E2) : List Bool := (List.range (n * n)).map fun (c : Nat) => W.any fun w => keyN n w == c
theorem tabN_len (n : Nat) (W : List E2) : (tabN n W).length = n * n := by simp [tabN]
theorem tabN_nil (n : Nat) : tabN n [] = List.replicate (n * n) false := by
 refine List.ext_getElem (by simp [tabN]) fun j h1 h2 => ?_
 simp [tabN]
theorem tabN_set {n : Nat} {W : List E2} {w : E2} : (tabN n W).set (keyN n w) true = tabN n (W ++ [w]) := by
 refine List.ext_getElem (by simp [tabN]) fun j h1 h2 => ?_
 rw [List.getElem_set]
 simp only [tabN, List.getElem_map, List.getElem_range, List.any_append, List.any_cons, List.any_nil, Bool.or_false]
 by_cases h : keyN n w = j
 ·rw [if_pos h]; simp [h]
 ·rw [if_neg h]; simp [h]
theorem key_lt {n : Nat} {w : E2} (h1 : 0 ≤ w.1 ∧ w.1 < n) (h2 : 0 ≤ w.2 ∧ w.2 < n) : keyN n w < n * n ∧ (keyN n w : Int) = min w.1 w.2 * n + max w.1 w.2 := by
 have a : 0 ≤ min w.1 w.2 ∧ min w.1 w.2 ≤ n - 1 := by omega
 have b : 0 ≤ max w.1 w.2 ∧ max w.1 w.2 < n := by omega
 unfold keyN
 generalize min w.1 w.2 = m at *
 generalize max w.1 w.2 = q at *
 have h3 : 0 ≤ m * (n : Int) := Int.mul_nonneg a.1 (by omega)
 have h4 : m * (n : Int) ≤ ((n : Int) - 1) * n := Int.mul_le_mul_of_nonneg_right a.2 (by omega)
 have h5 : ((n : Int) - 1) * n = (n * n : Nat) - n := by rw [Int.sub_mul]; simp
 omega
theorem key_inj {n : Nat} {w : E2} (h1 : 0 ≤ w.1 ∧ w.1 < n) (h2 : 0 ≤ w.2 ∧ w.2 < n) {a b : Nat} (hb : b < n) : keyN n w = a * n + b ↔ uW w = ((a : Int), (b : Int)) := by
 have hk := (key_lt h1 h2).2
 have a' : 0 ≤ min w.1 w.2 := by omega
 have b' : 0 ≤ max w.1 w.2 ∧ max w.1 w.2 < n := by omega
 unfold uW uE
 simp only [Prod.mk.injEq]
 generalize min w.1 w.2 = m at *
 generalize max w.1 w.2 = q at *
 constructor
 ·intro h
  rw [h] at hk;obtain ⟨m', rfl⟩ : ∃ m' : Nat, m = m' := ⟨m.toNat, by omega⟩
  obtain ⟨q', rfl⟩ : ∃ q' : Nat, q = q' := ⟨q.toNat, by omega⟩
  have hk' : a * n + b = m' * n + q' := by exact_mod_cast hk
  have e1 : (a * n + b) / n = a := by rw [Nat.mul_comm, Nat.mul_add_div (by omega), Nat.div_eq_of_lt hb]; rfl
  have e2 : (m' * n + q') / n = m' := by rw [Nat.mul_comm, Nat.mul_add_div (by omega), Nat.div_eq_of_lt (by omega)]; rfl
  rw [hk'] at e1;have : a = m' := by omega
  subst this;omega
 ·rintro ⟨rfl, rfl⟩
  have : ((keyN n w : Nat) : Int) = ((a * n + b : Nat) : Int) := by rw [hk]; simp
  omega
theorem way_in {n : Int} {ts : List (List Int)} (h : TriOk n ts) : ∀ i, i ≤ ts.length → ∀ w ∈ wayN ts i, (0 ≤ w.1 ∧ w.1 < n) ∧ (0 ≤ w.2 ∧ w.2 < n) := by
 intro i
 induction i with
 | zero => intro _ w hw; simp [wayN] at hw
 | succ i ih =>
  intro hi w hw;simp only [wayN, List.mem_append] at hw
  rcases hw with hw | hw
  ·exact ih (by omega) w hw
  ·obtain ⟨x, y, z, ht, h1, h2, h3, h4, h5, h6⟩ := h.at (show i < ts.length by omega)
   rw [ht, wayT3] at hw;simp only [List.mem_cons, List.not_mem_nil, or_false] at hw
   rcases hw with rfl | rfl | rfl <;> simp only <;> omega
theorem tab_seen {n : Nat} {ts : List (List Int)} (h : TriOk n ts) {a b : Nat} (_ : a < n) (hb : b < n) (hk : a * n + b < (tabN n (wayN ts ts.length)).length) : (tabN n (wayN ts ts.length))[a * n + b] = seenP ts a b := by
 rw [Bool.eq_iff_iff]
 simp only [tabN, List.getElem_map, List.getElem_range, List.any_eq_true, beq_iff_eq]
 unfold seenP
 simp only [decide_eq_true_eq, List.mem_map]
 constructor
 ·rintro ⟨w, h1, h2⟩
  have := way_in h _ (Nat.le_refl _) w h1;exact ⟨w, h1, (key_inj this.1 this.2 hb).1 h2⟩
 ·rintro ⟨w, h1, h2⟩
  have := way_in h _ (Nat.le_refl _) w h1;exact ⟨w, h1, (key_inj this.1 this.2 hb).2 h2⟩
theorem rowN_start (ts : List (List Int)) (a : Nat) : ∀ b, b ≤ a + 1 → rowN ts a b = []
 | 0, _ => rfl
 | b + 1, h => by
  simp only [rowN];rw [if_neg (by omega)]
  exact rowN_start ts a b (by omega)
theorem rowN_len (ts : List (List Int)) (a : Nat) : ∀ b, (rowN ts a b).length ≤ b
 | 0 => by simp [rowN]
 | b + 1 => by
  have := rowN_len ts a b;simp only [rowN];split
  ·simp; omega
  ·omega
theorem edgN_len (ts : List (List Int)) (n : Nat) : ∀ a, (edgN ts n a).length ≤ a * n
 | 0 => by simp [edgN]
 | a + 1 => by have h1 := edgN_len ts n a;have h2 := rowN_len ts a n;simp only [edgN, List.length_append];rw [Nat.add_mul];omega
theorem etl_app (a b : List E2) : etl (a ++ b) = etl a ++ etl b := by simp [etl]
theorem etl_len (a : List E2) : (etl a).length = a.length := by simp [etl]
theorem mk_etl (a b : Nat) : gev none .mklst [.int (a : Int), .int (b : Int)] = some (il [(a : Int), (b : Int)]) := by unfold il; rfl
theorem step413 {G : Told} (g453 : G 453 = F453) (g210 : G 210 = F210m) {n : Nat} (hn : n ≤ 64) {W : List E2} {t : D} {k a b k1 k2 : Int} (hk : decide (k < 3) = true) (hx : gev none .idx [t, .int k] = some (.int a)) (hw : IntKind.wrap .i64 (k + 1) = k1) (hm : k1.tmod 3 = k2)
  (hy : gev none .idx [t, .int k2] = some (.int b)) (ha : 0 ≤ a ∧ a < n) (hb : 0 ≤ b ∧ b < n) :
  S413L2 G (.int (n : Int)) t [bo (tabN n W), .int k] = some (0, [bo (tabN n (W ++ [(a, b)])), .int k1]) := by
 obtain ⟨hk1, hk2⟩ := key_lt (w := (a, b)) ha hb
 simp only at hk2
 have hnn : n * n ≤ 64 * 64 := Nat.mul_le_mul hn hn
 have c1 : gcall G none 453 [.int a, .int b] 1 = some [.int (min a b)] := gcall_on g453 rfl rfl rfl
 have c2 : gcall G none 210 [.int a, .int b] 1 = some [.int (max a b)] := gcall_on g210 rfl rfl rfl
 have hm0 : 0 ≤ min a b * (n : Int) := Int.mul_nonneg (by omega) (by omega)
 have w1 : IntKind.wrap .i64 (min a b * (n : Int)) = min a b * (n : Int) := wrap_id (by omega) (by omega)
 have w2 : IntKind.wrap .i64 (min a b * (n : Int) + max a b) = (keyN n (a, b) : Int) := by rw [wrap_id (by omega) (by omega), hk2]
 have hl := tabN_len n W
 have i1 := idx_bo (l := tabN n W) (i := keyN n (a, b)) (by omega)
 have s1 := set_bo (l := tabN n W) (i := keyN n (a, b)) (v := true) (by omega)
 rw [tabN_set] at s1
 unfold S413L2
 simp only [ev0, p_add, p_mul, p_rem3, hk, hx, hw, hm, hy, c1, c2, w1, w2, i1, s1]
theorem run413 {G : Told} (g453 : G 453 = F453) (g210 : G 210 = F210m) : Runs G F413 T413 := by
 intro ds rs h
 unfold F413 at h
 split at h
 case h_2 => cases h
 rename_i a b
 obtain ⟨vs, ha, h⟩ := Option.bind_eq_some_iff.1 h
 obtain ⟨ts, hb, h⟩ := Option.bind_eq_some_iff.1 h
 rw [dV_inv ha, dT_inv hb]
 split at h
 case isFalse => cases h
 rename_i hc
 simp only [Option.some.injEq] at h
 subst h
 clear ha
 clear hb
 have hT := triOk_of hc
 obtain ⟨hn, h128⟩ := valid_len hc
 obtain ⟨n, hnn⟩ : ∃ n, n = vs.length := ⟨_, rfl⟩
 obtain ⟨fuel, hfu⟩ : ∃ fuel, fuel = 1000 := ⟨_, rfl⟩
 refine ⟨fuel, ?_⟩
 rw [eq413]
 unfold S413
 have hl := len_tl (l := ts)
 have hv := len_vl (l := vs)
 rw [← hnn] at hT hn hv ⊢
 have hsq : n * n ≤ 64 * 64 := Nat.mul_le_mul hn hn
 have wnn : IntKind.wrap .i64 ((n : Int) * n) = ((n * n : Nat) : Int) := by rw [← Int.natCast_mul]; exact wrap_id (by omega) (by omega)
 have hrep := rep_bo (n := n * n) (by omega)
 rw [← tabN_nil] at hrep
 have t0 : iter (tbody 2 (S413L3 G fuel (tl ts) (.int (n : Int)))) fuel [bo (tabN n []), .int 0] = some (0, [bo (tabN n (wayN ts ts.length)), .int (ts.length : Int), .int (ts.length : Int), .int (ts.length : Int), .bool false]) := by
  refine iter_to (body := tbody 2 (S413L3 G fuel (tl ts) (.int (n : Int)))) (n := ts.length) (f := fuel) (l := 0) (fun i => [bo (tabN n (wayN ts i)), .int (i : Int)]) (by omega) (fun i hi => ?_) ?_
  ·refine tb rfl ?_
   obtain ⟨x, y, z, ht, _, _, _, hx, hy, hz⟩ := hT.at hi;have h0 : decide ((i : Int) < (ts.length : Int)) = true := by simpa using hi
   have hti := p_ti hi;rw [ht] at hti;have hadd := add1n (i := i) (by omega)
   have e : wayN ts (i + 1) = wayN ts i ++ [(x, y)] ++ [(y, z)] ++ [(z, x)] := by rw [wayN, ht, wayT3]; simp
   rw [e];have hin : iter (tbody 2 (S413L2 G (.int (n : Int)) (il [x, y, z]))) fuel [bo (tabN n (wayN ts i)), .int 0] = some (0, [bo (tabN n (wayN ts i ++ [(x, y)] ++ [(y, z)] ++ [(z, x)])), .int 3, .int 3, .bool false]) := by
    refine itf (f := 4) ?_ (by omega)
    refine iter_go (tb rfl (step413 g453 g210 hn d03 p_i0 w01 tm1 p_i1 hx hy)) ?_;refine iter_go (tb rfl (step413 g453 g210 hn d13 p_i1 w12 tm2 p_i2 hy hz)) ?_;refine iter_go (tb rfl (step413 g453 g210 hn d23 p_i2 w23 tm3 p_i0 hz hx)) ?_;refine iter_end (l := 0) (tb rfl ?_) rfl;unfold S413L2;simp only [ev0, p_add, p_rem3, Nat.zero_add, d33]
   unfold S413L3;simp only [ev0, j_0, List.length_cons, List.length_nil, Nat.zero_add, Nat.reduceAdd, if_true, hl, h0, hti, hin, hadd]
  ·refine tb rfl ?_
   have h0 : decide ((ts.length : Int) < (ts.length : Int)) = false := by simp
   unfold S413L3;simp only [ev0, p_add, Nat.zero_add, hl, h0]
 have hlen := tabN_len n (wayN ts ts.length)
 have hseen : ∀ a b : Nat, a < n → b < n → gev none .idx [bo (tabN n (wayN ts ts.length)), .int ((a * n + b : Nat) : Int)] = some (.bool (seenP ts a b)) := by
  intro a b ha hb;have hk := key_lt (n := n) (w := ((a : Int), (b : Int))) ⟨by simp, by simpa using ha⟩ ⟨by simp, by simpa using hb⟩
  have h1 : a * n + b < n * n := by have : (a + 1) * n ≤ n * n := Nat.mul_le_mul_right n ha;rw [Nat.add_mul] at this;omega
  have h2 : a * n + b < (tabN n (wayN ts ts.length)).length := by rw [hlen]; exact h1
  rw [idx_bo h2, tab_seen hT ha hb]
 generalize tabN n (wayN ts ts.length) = U at *
 have rowLoop : ∀ a : Nat, a < n → ∀ e5 : List D, e5.getD 0 .undef = bo U → ∀ e11 : List D, e11.getD 1 .undef = .int (a : Int) → iter (tbody 2 (S413L0 G (.int (n : Int)) e5 e11)) fuel [tl (etl (edgN ts n a)), .int ((a + 1 : Nat) : Int)] = some (0, [tl (etl (edgN ts n (a + 1))), .int (n : Int), .int (n : Int), .bool false]) := by
  intro a ha e5 he5 e11 he11;have hstart : edgN ts n a = edgN ts n a ++ rowN ts a (a + 1 + 0) := by rw [rowN_start ts a _ (by omega)]; simp
  rw [hstart];have hlast : edgN ts n (a + 1) = edgN ts n a ++ rowN ts a (a + 1 + (n - (a + 1))) := by rw [show a + 1 + (n - (a + 1)) = n by omega]; rfl
  rw [hlast];refine iter_to (body := tbody 2 (S413L0 G (.int (n : Int)) e5 e11)) (n := n - (a + 1)) (f := fuel) (l := 0) (fun j => [tl (etl (edgN ts n a ++ rowN ts a (a + 1 + j))), .int ((a + 1 + j : Nat) : Int)]) (by omega) (fun j hj => ?_) ?_
  ·refine tb rfl ?_
   have h0 : decide (((a + 1 + j : Nat) : Int) < (n : Int)) = true := by simp; omega
   have hs := hseen a (a + 1 + j) ha (by omega)
   have w1 : IntKind.wrap .i64 ((a : Int) * n) = (a : Int) * n := by
    have : a * n ≤ 64 * 64 := Nat.mul_le_mul (by omega) hn
    rw [← Int.natCast_mul]; exact wrap_id (by omega) (by omega)
   have w2 : IntKind.wrap .i64 ((a : Int) * n + ((a + 1 + j : Nat) : Int)) = ((a * n + (a + 1 + j) : Nat) : Int) := by
    have : a * n ≤ 64 * 64 := Nat.mul_le_mul (by omega) hn
    rw [← Int.natCast_mul, ← Int.natCast_add]; exact wrap_id (by omega) (by omega)
   have hadd := add1n (i := a + 1 + j) (by omega)
   have hel := edgN_len ts n a;have hrl := rowN_len ts a (a + 1 + j);have han : a * n ≤ 64 * 64 := Nat.mul_le_mul (by omega) hn
   have happ := app_tl (l := etl (edgN ts n a ++ rowN ts a (a + 1 + j))) (v := [((a : Nat) : Int), ((a + 1 + j : Nat) : Int)]) (by rw [etl_len, List.length_append]; omega)
   have hmk := mk_etl a (a + 1 + j);have hlk : gev none .mklst [il [((a : Nat) : Int), ((a + 1 + j : Nat) : Int)]] = some (.lst [il [((a : Nat) : Int), ((a + 1 + j : Nat) : Int)]]) := rfl;have hr : rowN ts a (a + 1 + (j + 1)) = if a < a + 1 + j ∧ seenP ts a (a + 1 + j : Nat) = true then rowN ts a (a + 1 + j) ++ [((a : Int), ((a + 1 + j : Nat) : Int))] else rowN ts a (a + 1 + j) := rfl
   rw [hr];generalize seenP ts (a : Int) ((a + 1 + j : Nat) : Int) = b at *;unfold S413L0
   cases b with
   | true =>
    rw [if_pos ⟨by omega, rfl⟩, ← List.append_assoc, etl_app _ [_]]
    simp only [ev0, j_0, p_add, p_mul, List.length_cons, List.length_nil, Nat.zero_add, if_true, h0, he5, he11, w1, w2, hs, hmk, hlk, happ, hadd];rfl
   | false =>
    rw [if_neg (by simp)]
    simp only [ev0, j_0, p_add, p_mul, List.length_cons, List.length_nil, Nat.zero_add, if_true, h0, he5, he11, w1, w2, hs, hadd];rfl
  ·refine tb rfl ?_
   have h0 : decide (((a + 1 + (n - (a + 1)) : Nat) : Int) < (n : Int)) = false := by simp; omega
   unfold S413L0;simp only [ev0, p_add, p_lst, Nat.zero_add, h0];rw [show a + 1 + (n - (a + 1)) = n by omega]
 obtain ⟨e5, he5⟩ : ∃ e5 : List D, e5 = [bo U, .int (ts.length : Int), .int (ts.length : Int), .int (ts.length : Int), .bool false] := ⟨_, rfl⟩
 have t1 : iter (tbody 2 (S413L1 G fuel (.int (n : Int)) e5)) fuel [tl (etl (edgN ts n 0)), .int 0] = some (0, [tl (etl (edgL ts n)), .int (n : Int), .int (n : Int), .bool false]) := by
  refine iter_to (body := tbody 2 (S413L1 G fuel (.int (n : Int)) e5)) (n := n) (f := fuel) (l := 0) (fun a => [tl (etl (edgN ts n a)), .int (a : Int)]) (by omega) (fun a ha => ?_) ?_
  ·refine tb rfl ?_
   have h0 : decide ((a : Int) < (n : Int)) = true := by simpa using ha
   have hadd := add1n (i := a) (by omega)
   have hrow := rowLoop a ha e5 (by rw [he5]; rfl) [tl (etl (edgN ts n a)), .int (a : Int)] rfl
   unfold S413L1;simp only [ev0, j_0, List.length_cons, List.length_nil, Nat.zero_add, Nat.reduceAdd, if_true, h0, hadd, hrow]
  ·refine tb rfl ?_
   have h0 : decide ((n : Int) < (n : Int)) = false := by simp
   unfold S413L1;simp only [ev0, p_add, Nat.zero_add, h0];rfl
 rw [← he5] at t0
 have e0 : gev none .mklst [] = some (tl (etl (edgN ts n 0))) := by unfold tl; rfl
 have hl5 : e5.length = 5 := by rw [he5]; rfl
 simp only [j_0, p_mul, Option.bind_some, List.getD_cons_zero, List.length_cons, List.length_nil, Nat.zero_add, Nat.reduceAdd, if_true, hv, wnn, hrep, t0, hl5, e0, t1]
theorem atL_in {ts : List (List Int)} {p q j : Int} (h : j ∈ atL ts p q) : 0 ≤ j ∧ j < (ts.length : Int) := atN_lt ts p q _ j h
theorem atL_tri {n : Int} {ts : List (List Int)} (hT : TriOk n ts) {p q j : Int} (h : j ∈ atL ts p q) : ∃ x y z, ts.getD j.toNat [] = [x, y, z] ∧ x ≠ y ∧ y ≠ z ∧ x ≠ z ∧ (0 ≤ x ∧ x < n) ∧ (0 ≤ y ∧ y < n) ∧ (0 ≤ z ∧ z < n) ∧ hasB [x, y, z] p q = true := by
 have hj := atL_in h
 obtain ⟨x, y, z, ht, h1, h2, h3, h4, h5, h6⟩ := hT.at (show j.toNat < ts.length by omega)
 have := atN_has ts p q _ j h
 rw [ht] at this
 exact ⟨x, y, z, ht, h1, h2, h3, h4, h5, h6, this⟩
theorem goes_at {n : Int} {ts : List (List Int)} (hT : TriOk n ts) {G : Told} (g407 : G 407 = F407) {p q j : Int} (h : j ∈ atL ts p q) (a b : Int) :
  gev none .idx [tl ts, .int j] = some (il (ts.getD j.toNat [])) ∧ gcall G none 407 [il (ts.getD j.toNat []), .int a, .int b] 1 = some [.bool (goesA ts a b j)] := by
 have hj := atL_in h
 refine ⟨p_tj hj.1 hj.2, ?_⟩
 obtain ⟨x, y, z, ht, _⟩ := atL_tri hT h
 unfold goesA
 rw [ht]
 exact gcall_on g407 rfl F407_m rfl
end Vs
