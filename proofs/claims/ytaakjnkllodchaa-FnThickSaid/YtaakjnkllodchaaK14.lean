/-
  DropPlaces: what the functions compute, and the law.
-/
import Derived.Test.YtaakjnkllodchaaK9
set_option maxHeartbeats 4000000
namespace Vs
open Go
def bo (l : List Bool) : D := .lst (l.map .bool)
theorem idx_bo {l : List Bool} {i : Nat} (h : i < l.length) : gev none .idx [bo l, .int i] = some (.bool l[i]) := by
 have h2 : (i : Int) < ((l.map D.bool).length : Int) := by simp; omega
 simp only [gev, gok, if_true, Prim.ev, bo]
 rw [if_pos ⟨by omega, h2⟩]
 simp [h]
theorem set_bo {l : List Bool} {i : Nat} {v : Bool} (h : i < l.length) : gev none .set [bo l, .int i, .bool v] = some (bo (l.set i v)) := by
 have h2 : (i : Int) < ((l.map D.bool).length : Int) := by simp; omega
 simp only [gev, gok, if_true, Prim.ev, bo]
 rw [if_pos ⟨by omega, h2⟩]
 simp [List.map_set]
theorem len_bo {l : List Bool} : gev none .len [bo l] = some (.int (l.length : Int)) := by simp [gev, gok, Prim.ev, bo]
theorem rep_bo {n : Nat} (h : n ≤ 1048576) : gev none .rep [.int n, .bool false] = some (bo (List.replicate n false)) := by
 simp only [gev, gok, if_true, Prim.ev, bo]
 rw [if_pos (by omega)]
 simp
theorem rep_il {n : Nat} (h : n ≤ 1048576) : gev none .rep [.int n, .int 0] = some (il (List.replicate n 0)) := by
 simp only [gev, gok, if_true, Prim.ev, il]
 rw [if_pos (by omega)]
 simp
theorem idx_in {l : List Int} {n : Nat} {p : Int} (hl : l.length = n) (h : inr n p = true) : gev none .idx [il l, .int p] = some (.int (l.getD p.toNat 0)) := by
 unfold inr at h
 simp only [Bool.and_eq_true, decide_eq_true_eq] at h
 have e : p = (p.toNat : Int) := by omega
 have hk : p.toNat < l.length := by omega
 have := idx_il hk
 rw [← e] at this
 rw [this, getD_lt hk]
def usedP (ts : List (List Int)) (p : Nat) : Bool := ts.any fun t => t.contains (p : Int)
def dpN (vs : List V3) (ts : List (List Int)) : Nat → List V3 × List Int
 | 0 => ([], List.replicate vs.length 0)
 | i + 1 => if usedP ts i then ((dpN vs ts i).1 ++ [vs.getD i ⟨0, 0, 0⟩], (dpN vs ts i).2.set i ((dpN vs ts i).1.length : Int)) else dpN vs ts i
theorem dpN_len (vs : List V3) (ts : List (List Int)) : ∀ i, (dpN vs ts i).1.length ≤ i ∧ (dpN vs ts i).2.length = vs.length
 | 0 => by simp [dpN]
 | i + 1 => by
  have := dpN_len vs ts i;simp only [dpN];split
  ·simp; omega
  ·omega
def trisD (a : List Int) (ts : List (List Int)) : List (List Int) := ts.map fun t => t.map fun p => a.getD p.toNat 0
theorem trisD_len (a : List Int) (ts : List (List Int)) : (trisD a ts).length = ts.length := by simp [trisD]
def ptsD (vs : List V3) (ts : List (List Int)) : List V3 := (dpN vs ts vs.length).1
def numD (vs : List V3) (ts : List (List Int)) : List Int := (dpN vs ts vs.length).2
noncomputable def F169 : List D → Option (List D)
 | [a, b] => (dV a).bind fun vs => (dT b).bind fun ts => if validP vs.length ts = true then some [bo ((List.range vs.length).map (usedP ts))] else none
 | _ => none
noncomputable def F170 : List D → Option (List D)
 | [a, b] => (dV a).bind fun vs => (dT b).bind fun ts => if szM vs ts ≤ 1048576 then some (if validP vs.length ts = true then [vl (ptsD vs ts), tl (trisD (numD vs ts) ts), .bool true] else [vl [], tl [], .bool false]) else none
 | _ => none
theorem F170_m {vs : List V3} {ts : List (List Int)} (h : szM vs ts ≤ 1048576) : F170 [vl vs, tl ts] = some (if validP vs.length ts = true then [vl (ptsD vs ts), tl (trisD (numD vs ts) ts), .bool true] else [vl [], tl [], .bool false]) := by
 simp only [F170, dV_vl, dT_tl, Option.bind_some]
 rw [if_pos h]
theorem F169_m {vs : List V3} {ts : List (List Int)} (h : validP vs.length ts = true) : F169 [vl vs, tl ts] = some [bo ((List.range vs.length).map (usedP ts))] := by
 simp only [F169, dV_vl, dT_tl, Option.bind_some]
 rw [if_pos h]
theorem valid_parts {n : Nat} {ts : List (List Int)} (h : validP n ts = true) : n ≤ 64 ∧ ts.length ≤ 128 ∧ ∀ i, (hi : i < ts.length) → ∃ p q r, ts[i] = [p, q, r] ∧ inr n p = true ∧ inr n q = true ∧ inr n r = true := by
 unfold validP at h
 simp only [Bool.and_eq_true, decide_eq_true_eq] at h
 refine ⟨h.1.1, h.1.2, fun i hi => ?_⟩
 have ht := List.all_eq_true.1 h.2 _ (List.getElem_mem hi)
 generalize ts[i] = t at ht
 unfold triP at ht
 split at ht
 ·rename_i p q r
  simp only [Bool.and_eq_true, List.all_cons, List.all_nil, Bool.and_true] at ht;obtain ⟨_, h1, h2, h3⟩ := ht;exact ⟨p, q, r, rfl, h1, h2, h3⟩
 ·cases ht
def T169 : T :=
(oo .len [0] <|
oo .rep [2, kN] <|
oo .len [1] <|
.join 3
 (.loop [3, kI 0]
  (oo (.icm .lss) [6, 4] <|
  .ite 7
   (oo .idx [1, 6] <|
   oo .len [8] <|
   .join 3
    (.loop [5, kI 0]
     (oo (.icm .lss) [11, 9] <|
     .ite 12
      (oo .idx [8, 11] <|
      oo .idx [10, 13] <|
      oo .set [10, 13, kT] <|
      oo (.iar .add .i64) [11, kI 1] <|
      .out 0 [15, 16])
      (.out 1 [10, 11, 12])))
   (oo (.iar .add .i64) [6, kI 1] <|
   .out 0 [10, 13]))
   (.out 1 [5, 6, 7])))
(.out 0 [5]))
def S169L0 (_G : Told) (x8 : D) (x9 : D) : List D → Option (Nat × List D) := fun e10 =>
      (gev none (.icm .lss) [e10.getD 1 .undef, x9]).bind fun x12 =>
      tif x12 (
       (gev none .idx [x8, e10.getD 1 .undef]).bind fun x13 =>
       (gev none .idx [e10.getD 0 .undef, x13]).bind fun _x14 =>
       (gev none .set [e10.getD 0 .undef, x13, .bool true]).bind fun x15 =>
       (gev none (.iar .add .i64) [e10.getD 1 .undef, .int 1]).bind fun x16 =>
       some (0, [x15, x16])) (
       some (1, [e10.getD 0 .undef, e10.getD 1 .undef, x12]))
def S169L1 (G : Told) (fuel : Nat) (x1 : D) (x4 : D) : List D → Option (Nat × List D) := fun e5 =>
   (gev none (.icm .lss) [e5.getD 1 .undef, x4]).bind fun x7 =>
   tif x7 (
    (gev none .idx [x1, e5.getD 1 .undef]).bind fun x8 =>
    (gev none .len [x8]).bind fun x9 =>
    tjoin 3 (
     iter (tbody 2 (S169L0 G x8 x9)) fuel [e5.getD 0 .undef, .int 0]) fun e10 =>
    (gev none (.iar .add .i64) [e5.getD 1 .undef, .int 1]).bind fun x13 =>
    some (0, [e10.getD 0 .undef, x13])) (
    some (1, [e5.getD 0 .undef, e5.getD 1 .undef, x7]))
def S169 (G : Told) (fuel : Nat) (x0 x1 : D) : Option (Nat × List D) :=
 (gev none .len [x0]).bind fun x2 =>
 (gev none .rep [x2, .bool false]).bind fun x3 =>
 (gev none .len [x1]).bind fun x4 =>
 tjoin 3 (
  iter (tbody 2 (S169L1 G fuel x1 x4)) fuel [x3, .int 0]) fun e5 =>
 some (0, [e5.getD 0 .undef])
theorem eq169 {G fuel} (x0 x1) : run G fuel T169 [x0, x1] = S169 G fuel x0 x1 := by rw [run_eq]; kernel_rfl
def T170 : T :=
(cc 150 [0, 1] 1 <|
oo .bnot [2] <|
.ite 3
 (.out 0 [kL, kL, kN])
 (oo .len [0] <|
 oo .rep [4, kI 0] <|
 cc 169 [0, 1] 1 <|
 oo .len [6] <|
 .join 4
  (.loop [(.v 5), kL, (.c (.int 0))]
   (oo (.icm .lss) [10, 7] <|
   .ite 11
    (oo .idx [6, 10] <|
    oo .idx [6, 10] <|
    .join 2
     (.ite 13
      (oo .len [9] <|
      oo .idx [8, 10] <|
      oo .set [8, 10, 14] <|
      oo .idx [0, 10] <|
      oo (.proj 0) [17] <|
      oo (.proj 1) [17] <|
      oo (.proj 2) [17] <|
      oo .mkagg [18, 19, 20] <|
      oo .mklst [21] <|
      oo .app [9, 22] <|
      .out 0 [16, 23])
      (.out 0 [8, 9]))
    (oo (.iar .add .i64) [10, kI 1] <|
    .out 0 [14, 15, 16]))
    (.out 1 [8, 9, 10, 11])))
 (oo .len [1] <|
 .join 3
  (.loop [kL, (.c (.int 0))]
   (oo (.icm .lss) [14, 12] <|
   .ite 15
    (oo .idx [1, 14] <|
    oo .idx [16, kI 0] <|
    oo .idx [8, 17] <|
    oo .idx [8, 17] <|
    oo .idx [16, kI 1] <|
    oo .idx [8, 20] <|
    oo .idx [8, 20] <|
    oo .idx [16, kI 2] <|
    oo .idx [8, 23] <|
    oo .idx [8, 23] <|
    oo .mklst [19, 22, 25] <|
    oo .mklst [26] <|
    oo .app [13, 27] <|
    oo (.iar .add .i64) [14, kI 1] <|
    .out 0 [28, 29])
    (.out 1 [13, 14, 15])))
 (.out 0 [9, 13, kT]))))
def S170L0 (_G : Told) (x1 : D) (e8 : List D) (x12 : D) : List D → Option (Nat × List D) := fun e13 =>
    (gev none (.icm .lss) [e13.getD 1 .undef, x12]).bind fun x15 =>
    tif x15 (
     (gev none .idx [x1, e13.getD 1 .undef]).bind fun x16 =>
     (gev none .idx [x16, .int 0]).bind fun x17 =>
     (gev none .idx [e8.getD 0 .undef, x17]).bind fun _x18 =>
     (gev none .idx [e8.getD 0 .undef, x17]).bind fun x19 =>
     (gev none .idx [x16, .int 1]).bind fun x20 =>
     (gev none .idx [e8.getD 0 .undef, x20]).bind fun _x21 =>
     (gev none .idx [e8.getD 0 .undef, x20]).bind fun x22 =>
     (gev none .idx [x16, .int 2]).bind fun x23 =>
     (gev none .idx [e8.getD 0 .undef, x23]).bind fun _x24 =>
     (gev none .idx [e8.getD 0 .undef, x23]).bind fun x25 =>
     (gev none .mklst [x19, x22, x25]).bind fun x26 =>
     (gev none .mklst [x26]).bind fun x27 =>
     (gev none .app [e13.getD 0 .undef, x27]).bind fun x28 =>
     (gev none (.iar .add .i64) [e13.getD 1 .undef, .int 1]).bind fun x29 =>
     some (0, [x28, x29])) (
     some (1, [e13.getD 0 .undef, e13.getD 1 .undef, x15]))
def S170L1 (_G : Told) (x0 : D) (e6 : List D) (x7 : D) : List D → Option (Nat × List D) := fun e8 =>
    (gev none (.icm .lss) [e8.getD 2 .undef, x7]).bind fun x11 =>
    tif x11 (
     (gev none .idx [e6.getD 0 .undef, e8.getD 2 .undef]).bind fun _x12 =>
     (gev none .idx [e6.getD 0 .undef, e8.getD 2 .undef]).bind fun x13 =>
     tjoin 2 (
      tif x13 (
       (gev none .len [e8.getD 1 .undef]).bind fun x14 =>
       (gev none .idx [e8.getD 0 .undef, e8.getD 2 .undef]).bind fun _x15 =>
       (gev none .set [e8.getD 0 .undef, e8.getD 2 .undef, x14]).bind fun x16 =>
       (gev none .idx [x0, e8.getD 2 .undef]).bind fun x17 =>
       (gev none (.proj 0) [x17]).bind fun x18 =>
       (gev none (.proj 1) [x17]).bind fun x19 =>
       (gev none (.proj 2) [x17]).bind fun x20 =>
       (gev none .mkagg [x18, x19, x20]).bind fun x21 =>
       (gev none .mklst [x21]).bind fun x22 =>
       (gev none .app [e8.getD 1 .undef, x22]).bind fun x23 =>
       some (0, [x16, x23])) (
       some (0, [e8.getD 0 .undef, e8.getD 1 .undef]))) fun e14 =>
     (gev none (.iar .add .i64) [e8.getD 2 .undef, .int 1]).bind fun x16 =>
     some (0, [e14.getD 0 .undef, e14.getD 1 .undef, x16])) (
     some (1, [e8.getD 0 .undef, e8.getD 1 .undef, e8.getD 2 .undef, x11]))
def S170 (G : Told) (fuel : Nat) (x0 x1 : D) : Option (Nat × List D) :=
 (gcall G none 150 [x0, x1] 1).bind fun e2 =>
 (gev none .bnot [e2.getD 0 .undef]).bind fun x3 =>
 tif x3 (
  some (0, [(.lst []), (.lst []), (.bool false)])) (
  (gev none .len [x0]).bind fun x4 =>
  (gev none .rep [x4, .int 0]).bind fun x5 =>
  (gcall G none 169 [x0, x1] 1).bind fun e6 =>
  (gev none .len [e6.getD 0 .undef]).bind fun x7 =>
  tjoin 4 (
   iter (tbody 3 (S170L1 G x0 e6 x7)) fuel [x5, (.lst []), (.int 0)]) fun e8 =>
  (gev none .len [x1]).bind fun x12 =>
  tjoin 3 (
   iter (tbody 2 (S170L0 G x1 e8 x12)) fuel [(.lst []), (.int 0)]) fun e13 =>
  some (0, [e8.getD 1 .undef, e13.getD 0 .undef, .bool true]))
theorem eq170 {G fuel} (x0 x1) : run G fuel T170 [x0, x1] = S170 G fuel x0 x1 := by rw [run_eq]; kernel_rfl
attribute [local irreducible] tif tjoin IntKind.wrap feq fadd fmul fsub fdiv fgt i2f wide vl il tl totL szM inr triP validP bo usedP

theorem run169 {G : Told} : Runs G F169 T169 := by
 intro ds rs h
 unfold F169 at h
 split at h
 case h_2 => cases h
 rename_i a b
 obtain ⟨vs, ha, h⟩ := Option.bind_eq_some_iff.1 h
 obtain ⟨ts, hb, h⟩ := Option.bind_eq_some_iff.1 h
 rw [dV_inv ha, dT_inv hb]
 split at h
 case isFalse => cases h
 rename_i hc
 simp only [Option.some.injEq] at h
 subst h
 clear ha hb
 obtain ⟨hn64, h128, hpar⟩ := valid_parts hc
 have hm := len_tl (l := ts)
 have hn := len_vl (l := vs)
 have hfu : ∃ fuel, fuel = 1000 := ⟨_, rfl⟩
 obtain ⟨fuel, hfu⟩ := hfu
 refine ⟨fuel, ?_⟩
 rw [eq169]
 unfold S169
 have hU : ∃ U : Nat → List Bool, (∀ i, (U i).length = vs.length) ∧ U 0 = List.replicate vs.length false ∧ U ts.length = (List.range vs.length).map (usedP ts) ∧ ∀ i, (hi : i < ts.length) → ∀ p q r, ts[i] = [p, q, r] → inr vs.length p = true → inr vs.length q = true → inr vs.length r = true → (((U i).set p.toNat true).set q.toNat true).set r.toNat true = U (i + 1) := by
  refine ⟨fun i => (List.range vs.length).map fun (c : Nat) => (ts.take i).any fun t => t.contains (c : Int), by simp, ?_, ?_, fun i hi p q r ht hp hq hr => ?_⟩
  ·refine List.ext_getElem (by simp) fun j h1 h2 => ?_
   simp
  ·refine List.map_congr_left fun c _ => ?_
   unfold usedP;rw [List.take_length]
  ·unfold inr at hp hq hr
   simp only [Bool.and_eq_true, decide_eq_true_eq] at hp hq hr;refine List.ext_getElem (by simp) fun j h1 h2 => ?_
   simp only [List.length_map, List.length_range] at h2;rw [List.getElem_set, List.getElem_set, List.getElem_set];simp only [List.getElem_map, List.getElem_range];rw [take_step hi, List.any_append, ht];simp only [List.any_cons, List.any_nil, Bool.or_false];have e : [p, q, r].contains (j : Int) = (decide (r.toNat = j) || decide (q.toNat = j) || decide (p.toNat = j)) := by rw [Bool.eq_iff_iff];simp only [List.contains_iff_mem, List.mem_cons, List.not_mem_nil, or_false, Bool.or_eq_true, decide_eq_true_eq];omega
   rw [e]
   by_cases c1 : r.toNat = j
   ·simp [c1]
   ·by_cases c2 : q.toNat = j
    ·simp [c1, c2]
    ·by_cases c3 : p.toNat = j
     ·simp [c1, c2, c3]
     ·simp [c1, c2, c3]
 obtain ⟨U, hul, hu0, huN, hus⟩ := hU
 rw [← huN]
 have hrep := rep_bo (n := vs.length) (by omega)
 rw [← hu0] at hrep
 have hloop : iter (tbody 2 (S169L1 G fuel (tl ts) (.int (ts.length : Int)))) fuel [bo (U 0), .int 0] = some (0, [bo (U ts.length), .int (ts.length : Int), .bool false]) := by
  refine iter_to (body := tbody 2 (S169L1 G fuel (tl ts) (.int (ts.length : Int)))) (n := ts.length) (f := fuel) (l := 0) (fun i => [bo (U i), .int (i : Int)]) (by omega) (fun i hi => ?_) ?_
  ·refine tb rfl ?_
   have h0 : decide ((i : Int) < (ts.length : Int)) = true := by simpa using hi
   obtain ⟨p, q, r, ht, hp, hq, hr⟩ := hpar i hi;have hx := idx_tl hi;rw [ht] at hx;have ha := add1n (i := i) (by omega)
   have hl3 : gev none .len [il [p, q, r]] = some (.int 3) := len_il (l := [p, q, r]);have x0 : gev none .idx [il [p, q, r], .int 0] = some (.int p) := idx_il (l := [p, q, r]) (i := 0) (by simp)
   have x1 : gev none .idx [il [p, q, r], .int 1] = some (.int q) := idx_il (l := [p, q, r]) (i := 1) (by simp)
   have x2 : gev none .idx [il [p, q, r], .int 2] = some (.int r) := idx_il (l := [p, q, r]) (i := 2) (by simp)
   have hset := hus i hi p q r ht hp hq hr;have hlen := hul i;generalize U i = u at hset hlen ⊢;rw [← hset];have key : ∀ (w : List Bool) (c : Int), w.length = vs.length → inr vs.length c = true → (∃ b, gev none .idx [bo w, .int c] = some (.bool b)) ∧ gev none .set [bo w, .int c, .bool true] = some (bo (w.set c.toNat true)) := by
    intro w c hw hc;unfold inr at hc;simp only [Bool.and_eq_true, decide_eq_true_eq] at hc;have e : c = (c.toNat : Int) := by omega
    have h1 := idx_bo (l := w) (i := c.toNat) (by omega)
    have h2 := set_bo (l := w) (i := c.toNat) (v := true) (by omega)
    rw [← e] at h1 h2;exact ⟨⟨_, h1⟩, h2⟩
   obtain ⟨⟨b0, i0⟩, s0⟩ := key u p hlen hp;obtain ⟨⟨b1, i1⟩, s1⟩ := key (u.set p.toNat true) q (by simp [hlen]) hq
   obtain ⟨⟨b2, i2⟩, s2⟩ := key ((u.set p.toNat true).set q.toNat true) r (by simp [hlen]) hr
   have a0 := add1n (i := 0) (by omega)
   have a1 := add1n (i := 1) (by omega)
   have a2 := add1n (i := 2) (by omega)
   have hin : iter (tbody 2 (S169L0 G (il [p, q, r]) (.int 3))) fuel [bo u, .int 0] = some (0, [bo (((u.set p.toNat true).set q.toNat true).set r.toNat true), .int 3, .bool false]) := by
    rw [show fuel = 996 + 4 from hfu]
    refine iter_go (ds' := [bo (u.set p.toNat true), .int 1]) (tb rfl ?_) ?_
    ·unfold S169L0
     repeat' first
      | with_reducible refine st_ift ?_
      | ((with_reducible apply st_some); exact x0)
      | ((with_reducible apply st_some); exact i0)
      | ((with_reducible apply st_some); exact s0)
      | ((with_reducible apply st_some); exact a0)
      | ((with_reducible apply st_t); exact rfl; exact rfl)
      | exact rfl
    refine iter_go (ds' := [bo ((u.set p.toNat true).set q.toNat true), .int 2]) (tb rfl ?_) ?_
    ·unfold S169L0
     repeat' first
      | with_reducible refine st_ift ?_
      | ((with_reducible apply st_some); exact x1)
      | ((with_reducible apply st_some); exact i1)
      | ((with_reducible apply st_some); exact s1)
      | ((with_reducible apply st_some); exact a1)
      | ((with_reducible apply st_t); exact rfl; exact rfl)
      | exact rfl
    refine iter_go (ds' := [bo (((u.set p.toNat true).set q.toNat true).set r.toNat true), .int 3]) (tb rfl ?_) ?_
    ·unfold S169L0
     repeat' first
      | with_reducible refine st_ift ?_
      | ((with_reducible apply st_some); exact x2)
      | ((with_reducible apply st_some); exact i2)
      | ((with_reducible apply st_some); exact s2)
      | ((with_reducible apply st_some); exact a2)
      | ((with_reducible apply st_t); exact rfl; exact rfl)
      | exact rfl
    refine iter_end (l := 0) (ds' := [bo (((u.set p.toNat true).set q.toNat true).set r.toNat true), .int 3, .bool false]) (tb rfl ?_) rfl;unfold S169L0
    repeat' first
     | with_reducible refine st_iff ?_
     | ((with_reducible apply st_f); exact rfl; exact rfl)
     | exact rfl
   unfold S169L1
   repeat' first
    | with_reducible refine st_ift ?_
    | ((with_reducible apply st_t); exact rfl; exact h0)
    | ((with_reducible apply st_join); exact hin; exact rfl)
    | ((with_reducible apply st_some); exact hx)
    | ((with_reducible apply st_some); exact hl3)
    | ((with_reducible apply st_some); exact ha)
    | exact rfl
  ·refine tb rfl ?_
   have h0 : decide ((ts.length : Int) < (ts.length : Int)) = false := by simp
   unfold S169L1
   repeat' first
    | with_reducible refine st_iff ?_
    | ((with_reducible apply st_f); exact rfl; exact h0)
    | exact rfl
 repeat' first
  | ((with_reducible apply st_some); with_reducible exact hrep)
  | ((with_reducible apply st_join); exact hloop; exact rfl)
  | ((with_reducible apply st_some); exact hn)
  | ((with_reducible apply st_some); exact hm)
  | exact rfl
theorem run170 {G : Told} (g150 : G 150 = F150) (g169 : G 169 = F169) : Runs G F170 T170 := by
 intro ds rs h
 unfold F170 at h
 split at h
 case h_2 => cases h
 rename_i a b
 obtain ⟨vs, ha, h⟩ := Option.bind_eq_some_iff.1 h
 obtain ⟨ts, hb, h⟩ := Option.bind_eq_some_iff.1 h
 rw [dV_inv ha, dT_inv hb]
 split at h
 case isFalse => cases h
 rename_i hc
 simp only [Option.some.injEq] at h
 subst h
 have hz : szM vs ts = vs.length + ts.length + totL ts := by unfold szM; rfl
 have hv := F150_m hc
 have hn := len_vl (l := vs)
 have hm := len_tl (l := ts)
 have hfu : ∃ fuel, fuel = 1000 := ⟨_, rfl⟩
 obtain ⟨fuel, hfu⟩ := hfu
 refine ⟨fuel, ?_⟩
 rw [eq170]
 unfold S170
 rw [vl_nil, tl_nil]
 cases hval : validP vs.length ts
 case false =>
  rw [hval] at hv;rw [if_neg (by simp)]
  repeat' first
   | with_reducible refine st_ift ?_
   | ((with_reducible apply st_call); exact g150; exact rfl; exact hv; exact rfl)
   | ((with_reducible apply st_t); exact rfl; exact rfl)
   | exact rfl
 case true =>
  rw [hval] at hv;rw [if_pos rfl];obtain ⟨hn64, h128, hpar⟩ := valid_parts hval;have hrep := rep_il (n := vs.length) (by omega)
  have hf := F169_m hval;have hnb := len_bo (l := (List.range vs.length).map (usedP ts));rw [List.length_map, List.length_range] at hnb;have hloop1 : iter (tbody 3 (S170L1 G (vl vs) [bo ((List.range vs.length).map (usedP ts))] (.int (vs.length : Int)))) fuel [il (List.replicate vs.length 0), .lst [], .int 0] = some (0, [il (dpN vs ts vs.length).2, vl (dpN vs ts vs.length).1, .int (vs.length : Int), .bool false]) := by
   have h1 := iter_to (body := tbody 3 (S170L1 G (vl vs) [bo ((List.range vs.length).map (usedP ts))] (.int (vs.length : Int)))) (n := vs.length) (f := fuel) (l := 0) (ds := [il (dpN vs ts vs.length).2, vl (dpN vs ts vs.length).1, .int (vs.length : Int), .bool false])
    (fun i => [il (dpN vs ts i).2, vl (dpN vs ts i).1, .int (i : Int)]) (by omega) ?_ ?_
   ·simpa [dpN, vl_nil] using h1
   ·intro i hi
    refine tb rfl ?_;have h0 : decide ((i : Int) < (vs.length : Int)) = true := by simpa using hi
    have hx := idx_vl hi;have ha := add1n (i := i) (by omega)
    obtain ⟨hl1, hl2⟩ := dpN_len vs ts i;have hxb := idx_bo (l := (List.range vs.length).map (usedP ts)) (i := i) (by simp; omega)
    rw [List.getElem_map, List.getElem_range] at hxb;simp only [dpN, getD_lt hi];generalize dpN vs ts i = o at hl1 hl2 ⊢;obtain ⟨o, nu⟩ := o
    dsimp only at hl1 hl2 ⊢
    have ho := len_vl (l := o);have hxn := idx_il (l := nu) (i := i) (by omega)
    have hsn := set_il (l := nu) (i := i) (v := (o.length : Int)) (by omega)
    have hap := app_vl (l := o) (v := vs[i]) (by omega)
    cases hus : usedP ts i
    ·rw [hus] at hxb
     rw [if_neg (by simp)]
     unfold S170L1
     repeat' first
      | with_reducible refine st_ift ?_
      | with_reducible refine st_iff ?_
      | (with_reducible refine st_join (ds := [il nu, vl o]) ?_ ?_ ?_)
      | ((with_reducible apply st_some); exact hxb)
      | ((with_reducible apply st_some); exact ha)
      | ((with_reducible apply st_t); exact rfl; assumption)
      | exact rfl
    ·rw [hus] at hxb
     rw [if_pos rfl];unfold S170L1
     repeat' first
      | with_reducible refine st_ift ?_
      | (with_reducible refine st_join (ds := [il (nu.set i (o.length : Int)), vl (o ++ [vs[i]])]) ?_ ?_ ?_)
      | ((with_reducible apply st_some); exact hxb)
      | ((with_reducible apply st_some); exact hx)
      | ((with_reducible apply st_some); exact ha)
      | ((with_reducible apply st_some); exact ho)
      | ((with_reducible apply st_some); exact hxn)
      | ((with_reducible apply st_some); exact hsn)
      | ((with_reducible apply st_some); exact hap)
      | ((with_reducible apply st_t); exact rfl; assumption)
      | ((with_reducible apply st_some); exact rfl)
      | exact rfl
   ·refine tb rfl ?_
    have h0 : decide ((vs.length : Int) < (vs.length : Int)) = false := by simp
    unfold S170L1
    repeat' first
     | with_reducible refine st_iff ?_
     | ((with_reducible apply st_f); exact rfl; assumption)
     | exact rfl
  obtain ⟨_, hnl⟩ := dpN_len vs ts vs.length;have e1 : ptsD vs ts = (dpN vs ts vs.length).1 := rfl;have e2 : numD vs ts = (dpN vs ts vs.length).2 := rfl;rw [e1, e2];generalize (dpN vs ts vs.length).2 = nu at *;generalize (dpN vs ts vs.length).1 = po at *;have hloop2 : iter (tbody 2 (S170L0 G (tl ts) [il nu, vl po, .int (vs.length : Int), .bool false] (.int (ts.length : Int)))) fuel [.lst [], .int 0] = some (0, [tl (trisD nu ts), .int (ts.length : Int), .bool false]) := by
   have h1 := iter_to (body := tbody 2 (S170L0 G (tl ts) [il nu, vl po, .int (vs.length : Int), .bool false] (.int (ts.length : Int)))) (n := ts.length) (f := fuel) (l := 0) (ds := [tl (trisD nu ts), .int (ts.length : Int), .bool false])
    (fun i => [tl ((trisD nu ts).take i), .int (i : Int)]) (by omega) ?_ ?_
   ·simpa [tl_nil] using h1
   ·intro i hi
    refine tb rfl ?_;have h0 : decide ((i : Int) < (ts.length : Int)) = true := by simpa using hi
    obtain ⟨p, q, r, ht, hp, hq, hr⟩ := hpar i hi;have hx := idx_tl hi;rw [ht] at hx;have ha := add1n (i := i) (by omega)
    have x0 : gev none .idx [il [p, q, r], .int 0] = some (.int p) := idx_il (l := [p, q, r]) (i := 0) (by simp)
    have x1 : gev none .idx [il [p, q, r], .int 1] = some (.int q) := idx_il (l := [p, q, r]) (i := 1) (by simp)
    have x2 : gev none .idx [il [p, q, r], .int 2] = some (.int r) := idx_il (l := [p, q, r]) (i := 2) (by simp)
    have y0 := idx_in hnl hp;have y1 := idx_in hnl hq;have y2 := idx_in hnl hr;have htl := trisD_len nu ts;have hgt : (trisD nu ts)[i]'(by omega) = [nu.getD p.toNat 0, nu.getD q.toNat 0, nu.getD r.toNat 0] := by unfold trisD;simp only [List.getElem_map, ht, List.map_cons, List.map_nil]
    have hap := app_tl (l := (trisD nu ts).take i) (v := (trisD nu ts)[i]'(by omega)) (by simp; omega)
    rw [← take_step, hgt] at hap;have hil : (il [nu.getD p.toNat 0, nu.getD q.toNat 0, nu.getD r.toNat 0]) = .lst [.int (nu.getD p.toNat 0), .int (nu.getD q.toNat 0), .int (nu.getD r.toNat 0)] := by unfold il; rfl
    rw [hil] at hap;generalize nu.getD p.toNat 0 = np at *;generalize nu.getD q.toNat 0 = nq at *;generalize nu.getD r.toNat 0 = nr at *;generalize tl ((trisD nu ts).take i) = t1 at hap ⊢;generalize tl ((trisD nu ts).take (i + 1)) = t2 at hap ⊢;unfold S170L0
    repeat' first
     | with_reducible refine st_ift ?_
     | ((with_reducible apply st_some); exact hx)
     | ((with_reducible apply st_some); exact x0)
     | ((with_reducible apply st_some); exact x1)
     | ((with_reducible apply st_some); exact x2)
     | ((with_reducible apply st_some); exact y0)
     | ((with_reducible apply st_some); exact y1)
     | ((with_reducible apply st_some); exact y2)
     | ((with_reducible apply st_some); exact hap)
     | ((with_reducible apply st_some); exact ha)
     | ((with_reducible apply st_t); exact rfl; assumption)
     | ((with_reducible apply st_some); exact rfl)
     | exact rfl
   ·refine tb rfl ?_
    have h0 : decide ((ts.length : Int) < (ts.length : Int)) = false := by simp
    have e : (trisD nu ts).take ts.length = trisD nu ts := by rw [← trisD_len nu ts]; exact List.take_length
    rw [e];unfold S170L0
    repeat' first
     | with_reducible refine st_iff ?_
     | ((with_reducible apply st_f); exact rfl; assumption)
     | exact rfl
  repeat' first
   | with_reducible refine st_iff ?_
   | ((with_reducible apply st_call); exact g150; exact rfl; exact hv; exact rfl)
   | ((with_reducible apply st_some); with_reducible exact hrep)
   | ((with_reducible apply st_call); exact g169; exact rfl; exact hf; exact rfl)
   | ((with_reducible apply st_join); exact hloop1; exact rfl)
   | ((with_reducible apply st_join); exact hloop2; exact rfl)
   | ((with_reducible apply st_some); exact hn)
   | ((with_reducible apply st_some); exact hnb)
   | ((with_reducible apply st_some); exact hm)
   | ((with_reducible apply st_f); exact rfl; exact rfl)
   | exact rfl
end Vs
