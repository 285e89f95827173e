/-
  DropPlaces: what the functions compute, and the law.
-/
import Derived.Test.YtaakjnkllodchaaGreatK9
set_option maxHeartbeats 4000000
namespace Vs
open Go
def bo (l : List Bool) : D := .lst (l.map .bool)
theorem idx_bo {l : List Bool} {i : Nat} (h : i < l.length) : gev none .idx [bo l, .int i] = some (.bool l[i]) := by
 have h2 : (i : Int) < ((l.map D.bool).length : Int) := by simp; omega
 simp only [gev, gok, if_true, Prim.ev, bo]
 rw [if_pos ⟨by omega, h2⟩]
 simp [h]
theorem set_bo {l : List Bool} {i : Nat} {v : Bool} (h : i < l.length) : gev none .set [bo l, .int i, .bool v] = some (bo (l.set i v)) := by
 have h2 : (i : Int) < ((l.map D.bool).length : Int) := by simp; omega
 simp only [gev, gok, if_true, Prim.ev, bo]
 rw [if_pos ⟨by omega, h2⟩]
 simp [List.map_set]
theorem len_bo {l : List Bool} : gev none .len [bo l] = some (.int (l.length : Int)) := by simp [gev, gok, Prim.ev, bo]
theorem rep_bo {n : Nat} (h : n ≤ 1048576) : gev none .rep [.int n, .bool false] = some (bo (List.replicate n false)) := by
 simp only [gev, gok, if_true, Prim.ev, bo]
 rw [if_pos (by omega)]
 simp
def usedP (ts : List (List Int)) (p : Nat) : Bool := ts.any fun t => t.contains (p : Int)
noncomputable def F169 : List D → Option (List D)
 | [a, b] => (dV a).bind fun vs => (dT b).bind fun ts => if validP vs.length ts = true then some [bo ((List.range vs.length).map (usedP ts))] else none
 | _ => none
theorem F169_m {vs : List V3} {ts : List (List Int)} (h : validP vs.length ts = true) : F169 [vl vs, tl ts] = some [bo ((List.range vs.length).map (usedP ts))] := by
 simp only [F169, dV_vl, dT_tl, Option.bind_some]
 rw [if_pos h]
theorem valid_parts {n : Nat} {ts : List (List Int)} (h : validP n ts = true) : n ≤ 64 ∧ ts.length ≤ 128 ∧ ∀ i, (hi : i < ts.length) → ∃ p q r, ts[i] = [p, q, r] ∧ inr n p = true ∧ inr n q = true ∧ inr n r = true := by
 unfold validP at h
 simp only [Bool.and_eq_true, decide_eq_true_eq] at h
 refine ⟨h.1.1, h.1.2, fun i hi => ?_⟩
 have ht := List.all_eq_true.1 h.2 _ (List.getElem_mem hi)
 generalize ts[i] = t at ht
 unfold triP at ht
 split at ht
 ·rename_i p q r
  simp only [Bool.and_eq_true, List.all_cons, List.all_nil, Bool.and_true] at ht;obtain ⟨_, h1, h2, h3⟩ := ht;exact ⟨p, q, r, rfl, h1, h2, h3⟩
 ·cases ht
def T169 : T :=
(oo .len [0] <|
oo .rep [2, kN] <|
oo .len [1] <|
.join 3
 (.loop [3, kI 0]
  (oo (.icm .lss) [6, 4] <|
  .ite 7
   (oo .idx [1, 6] <|
   oo .len [8] <|
   .join 3
    (.loop [5, kI 0]
     (oo (.icm .lss) [11, 9] <|
     .ite 12
      (oo .idx [8, 11] <|
      oo .idx [10, 13] <|
      oo .set [10, 13, kT] <|
      oo (.iar .add .i64) [11, kI 1] <|
      .out 0 [15, 16])
      (.out 1 [10, 11, 12])))
   (oo (.iar .add .i64) [6, kI 1] <|
   .out 0 [10, 13]))
   (.out 1 [5, 6, 7])))
(.out 0 [5]))
def S169L0 (_G : Told) (x8 : D) (x9 : D) : List D → Option (Nat × List D) := fun e10 =>
      (gev none (.icm .lss) [e10.getD 1 .undef, x9]).bind fun x12 =>
      tif x12 (
       (gev none .idx [x8, e10.getD 1 .undef]).bind fun x13 =>
       (gev none .idx [e10.getD 0 .undef, x13]).bind fun _x14 =>
       (gev none .set [e10.getD 0 .undef, x13, .bool true]).bind fun x15 =>
       (gev none (.iar .add .i64) [e10.getD 1 .undef, .int 1]).bind fun x16 =>
       some (0, [x15, x16])) (
       some (1, [e10.getD 0 .undef, e10.getD 1 .undef, x12]))
def S169L1 (G : Told) (fuel : Nat) (x1 : D) (x4 : D) : List D → Option (Nat × List D) := fun e5 =>
   (gev none (.icm .lss) [e5.getD 1 .undef, x4]).bind fun x7 =>
   tif x7 (
    (gev none .idx [x1, e5.getD 1 .undef]).bind fun x8 =>
    (gev none .len [x8]).bind fun x9 =>
    tjoin 3 (
     iter (tbody 2 (S169L0 G x8 x9)) fuel [e5.getD 0 .undef, .int 0]) fun e10 =>
    (gev none (.iar .add .i64) [e5.getD 1 .undef, .int 1]).bind fun x13 =>
    some (0, [e10.getD 0 .undef, x13])) (
    some (1, [e5.getD 0 .undef, e5.getD 1 .undef, x7]))
def S169 (G : Told) (fuel : Nat) (x0 x1 : D) : Option (Nat × List D) :=
 (gev none .len [x0]).bind fun x2 =>
 (gev none .rep [x2, .bool false]).bind fun x3 =>
 (gev none .len [x1]).bind fun x4 =>
 tjoin 3 (
  iter (tbody 2 (S169L1 G fuel x1 x4)) fuel [x3, .int 0]) fun e5 =>
 some (0, [e5.getD 0 .undef])
theorem eq169 {G fuel} (x0 x1) : run G fuel T169 [x0, x1] = S169 G fuel x0 x1 := by rw [run_eq]; kernel_rfl
attribute [local irreducible] tif tjoin IntKind.wrap feq fadd fmul fsub fdiv fgt i2f wide vl il tl totL szM inr triP validP bo usedP

theorem run169 {G : Told} : Runs G F169 T169 := by
 intro ds rs h
 unfold F169 at h
 split at h
 case h_2 => cases h
 rename_i a b
 obtain ⟨vs, ha, h⟩ := Option.bind_eq_some_iff.1 h
 obtain ⟨ts, hb, h⟩ := Option.bind_eq_some_iff.1 h
 rw [dV_inv ha, dT_inv hb]
 split at h
 case isFalse => cases h
 rename_i hc
 simp only [Option.some.injEq] at h
 subst h
 clear ha hb
 obtain ⟨hn64, h128, hpar⟩ := valid_parts hc
 have hm := len_tl (l := ts)
 have hn := len_vl (l := vs)
 have hfu : ∃ fuel, fuel = 1000 := ⟨_, rfl⟩
 obtain ⟨fuel, hfu⟩ := hfu
 refine ⟨fuel, ?_⟩
 rw [eq169]
 unfold S169
 have hU : ∃ U : Nat → List Bool, (∀ i, (U i).length = vs.length) ∧ U 0 = List.replicate vs.length false ∧ U ts.length = (List.range vs.length).map (usedP ts) ∧ ∀ i, (hi : i < ts.length) → ∀ p q r, ts[i] = [p, q, r] → inr vs.length p = true → inr vs.length q = true → inr vs.length r = true → (((U i).set p.toNat true).set q.toNat true).set r.toNat true = U (i + 1) := by
  refine ⟨fun i => (List.range vs.length).map fun (c : Nat) => (ts.take i).any fun t => t.contains (c : Int), by simp, ?_, ?_, fun i hi p q r ht hp hq hr => ?_⟩
  ·refine List.ext_getElem (by simp) fun j h1 h2 => ?_
   simp
  ·refine List.map_congr_left fun c _ => ?_
   unfold usedP;rw [List.take_length]
  ·unfold inr at hp hq hr
   simp only [Bool.and_eq_true, decide_eq_true_eq] at hp hq hr;refine List.ext_getElem (by simp) fun j h1 h2 => ?_
   simp only [List.length_map, List.length_range] at h2;rw [List.getElem_set, List.getElem_set, List.getElem_set];simp only [List.getElem_map, List.getElem_range];rw [take_step hi, List.any_append, ht];simp only [List.any_cons, List.any_nil, Bool.or_false];have e : [p, q, r].contains (j : Int) = (decide (r.toNat = j) || decide (q.toNat = j) || decide (p.toNat = j)) := by rw [Bool.eq_iff_iff];simp only [List.contains_iff_mem, List.mem_cons, List.not_mem_nil, or_false, Bool.or_eq_true, decide_eq_true_eq];omega
   rw [e]
   by_cases c1 : r.toNat = j
   ·simp [c1]
   ·by_cases c2 : q.toNat = j
    ·simp [c1, c2]
    ·by_cases c3 : p.toNat = j
     ·simp [c1, c2, c3]
     ·simp [c1, c2, c3]
 obtain ⟨U, hul, hu0, huN, hus⟩ := hU
 rw [← huN]
 have hrep := rep_bo (n := vs.length) (by omega)
 rw [← hu0] at hrep
 have hloop : iter (tbody 2 (S169L1 G fuel (tl ts) (.int (ts.length : Int)))) fuel [bo (U 0), .int 0] = some (0, [bo (U ts.length), .int (ts.length : Int), .bool false]) := by
  refine iter_to (body := tbody 2 (S169L1 G fuel (tl ts) (.int (ts.length : Int)))) (n := ts.length) (f := fuel) (l := 0) (fun i => [bo (U i), .int (i : Int)]) (by omega) (fun i hi => ?_) ?_
  ·refine tb rfl ?_
   have h0 : decide ((i : Int) < (ts.length : Int)) = true := by simpa using hi
   obtain ⟨p, q, r, ht, hp, hq, hr⟩ := hpar i hi;have hx := idx_tl hi;rw [ht] at hx;have ha := add1n (i := i) (by omega)
   have hl3 : gev none .len [il [p, q, r]] = some (.int 3) := len_il (l := [p, q, r]);have x0 : gev none .idx [il [p, q, r], .int 0] = some (.int p) := idx_il (l := [p, q, r]) (i := 0) (by simp)
   have x1 : gev none .idx [il [p, q, r], .int 1] = some (.int q) := idx_il (l := [p, q, r]) (i := 1) (by simp)
   have x2 : gev none .idx [il [p, q, r], .int 2] = some (.int r) := idx_il (l := [p, q, r]) (i := 2) (by simp)
   have hset := hus i hi p q r ht hp hq hr;have hlen := hul i;generalize U i = u at hset hlen ⊢;rw [← hset];have key : ∀ (w : List Bool) (c : Int), w.length = vs.length → inr vs.length c = true → (∃ b, gev none .idx [bo w, .int c] = some (.bool b)) ∧ gev none .set [bo w, .int c, .bool true] = some (bo (w.set c.toNat true)) := by
    intro w c hw hc;unfold inr at hc;simp only [Bool.and_eq_true, decide_eq_true_eq] at hc;have e : c = (c.toNat : Int) := by omega
    have h1 := idx_bo (l := w) (i := c.toNat) (by omega)
    have h2 := set_bo (l := w) (i := c.toNat) (v := true) (by omega)
    rw [← e] at h1 h2;exact ⟨⟨_, h1⟩, h2⟩
   obtain ⟨⟨b0, i0⟩, s0⟩ := key u p hlen hp;obtain ⟨⟨b1, i1⟩, s1⟩ := key (u.set p.toNat true) q (by simp [hlen]) hq
   obtain ⟨⟨b2, i2⟩, s2⟩ := key ((u.set p.toNat true).set q.toNat true) r (by simp [hlen]) hr
   have a0 := add1n (i := 0) (by omega)
   have a1 := add1n (i := 1) (by omega)
   have a2 := add1n (i := 2) (by omega)
   have hin : iter (tbody 2 (S169L0 G (il [p, q, r]) (.int 3))) fuel [bo u, .int 0] = some (0, [bo (((u.set p.toNat true).set q.toNat true).set r.toNat true), .int 3, .bool false]) := by
    rw [show fuel = 996 + 4 from hfu]
    refine iter_go (ds' := [bo (u.set p.toNat true), .int 1]) (tb rfl ?_) ?_
    ·unfold S169L0
     repeat' first
      | with_reducible refine st_ift ?_
      | ((with_reducible apply st_some); exact x0)
      | ((with_reducible apply st_some); exact i0)
      | ((with_reducible apply st_some); exact s0)
      | ((with_reducible apply st_some); exact a0)
      | ((with_reducible apply st_t); exact rfl; exact rfl)
      | exact rfl
    refine iter_go (ds' := [bo ((u.set p.toNat true).set q.toNat true), .int 2]) (tb rfl ?_) ?_
    ·unfold S169L0
     repeat' first
      | with_reducible refine st_ift ?_
      | ((with_reducible apply st_some); exact x1)
      | ((with_reducible apply st_some); exact i1)
      | ((with_reducible apply st_some); exact s1)
      | ((with_reducible apply st_some); exact a1)
      | ((with_reducible apply st_t); exact rfl; exact rfl)
      | exact rfl
    refine iter_go (ds' := [bo (((u.set p.toNat true).set q.toNat true).set r.toNat true), .int 3]) (tb rfl ?_) ?_
    ·unfold S169L0
     repeat' first
      | with_reducible refine st_ift ?_
      | ((with_reducible apply st_some); exact x2)
      | ((with_reducible apply st_some); exact i2)
      | ((with_reducible apply st_some); exact s2)
      | ((with_reducible apply st_some); exact a2)
      | ((with_reducible apply st_t); exact rfl; exact rfl)
      | exact rfl
    refine iter_end (l := 0) (ds' := [bo (((u.set p.toNat true).set q.toNat true).set r.toNat true), .int 3, .bool false]) (tb rfl ?_) rfl;unfold S169L0
    repeat' first
     | with_reducible refine st_iff ?_
     | ((with_reducible apply st_f); exact rfl; exact rfl)
     | exact rfl
   unfold S169L1
   repeat' first
    | with_reducible refine st_ift ?_
    | ((with_reducible apply st_t); exact rfl; exact h0)
    | ((with_reducible apply st_join); exact hin; exact rfl)
    | ((with_reducible apply st_some); exact hx)
    | ((with_reducible apply st_some); exact hl3)
    | ((with_reducible apply st_some); exact ha)
    | exact rfl
  ·refine tb rfl ?_
   have h0 : decide ((ts.length : Int) < (ts.length : Int)) = false := by simp
   unfold S169L1
   repeat' first
    | with_reducible refine st_iff ?_
    | ((with_reducible apply st_f); exact rfl; exact h0)
    | exact rfl
 repeat' first
  | ((with_reducible apply st_some); with_reducible exact hrep)
  | ((with_reducible apply st_join); exact hloop; exact rfl)
  | ((with_reducible apply st_some); exact hn)
  | ((with_reducible apply st_some); exact hm)
  | exact rfl
end Vs
