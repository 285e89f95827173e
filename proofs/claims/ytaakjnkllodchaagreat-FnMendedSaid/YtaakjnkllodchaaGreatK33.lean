/-
  The best edge of a mesh: the program's functions.
-/
import Derived.Test.YtaakjnkllodchaaGreatK32
set_option maxHeartbeats 4000000
namespace Vs
open Go Go.Sort
open Classical in
noncomputable def F430 : List D → Option (List D)
 | [a, b, c, d] => (dV a).bind fun vs => (dT b).bind fun ts => if validP vs.length ts = true ∧ c = a ∧ d = b then some (bstP (numL vs) (betL false) (edgL ts vs.length)) else none
 | _ => none
theorem F430_m {vs : List V3} {ts : List (List Int)} (h : validP vs.length ts = true) : F430 [vl vs, tl ts, vl vs, tl ts] = some (bstP (numL vs) (betL false) (edgL ts vs.length)) := by
 simp only [F430, dV_vl, dT_tl, Option.bind_some]
 rw [if_pos ⟨h, trivial, trivial⟩]
open Classical in
noncomputable def F431 : List D → Option (List D)
 | [a, b, c, d] => (dV a).bind fun vs => (dT b).bind fun ts => if validP vs.length ts = true ∧ c = a ∧ d = b then some (bstP (numL vs) (betL true) (edgL ts vs.length)) else none
 | _ => none
theorem F431_m {vs : List V3} {ts : List (List Int)} (h : validP vs.length ts = true) : F431 [vl vs, tl ts, vl vs, tl ts] = some (bstP (numL vs) (betL true) (edgL ts vs.length)) := by
 simp only [F431, dV_vl, dT_tl, Option.bind_some]
 rw [if_pos ⟨h, trivial, trivial⟩]
open Classical in
noncomputable def F432 : List D → Option (List D)
 | [a, b, c, d] => (dV a).bind fun vs => (dT b).bind fun ts => if validP vs.length ts = true ∧ c = a ∧ d = b then some (bstP (numF vs ts) (betL true) (edgL ts vs.length)) else none
 | _ => none
theorem F432_m {vs : List V3} {ts : List (List Int)} (h : validP vs.length ts = true) : F432 [vl vs, tl ts, vl vs, tl ts] = some (bstP (numF vs ts) (betL true) (edgL ts vs.length)) := by
 simp only [F432, dV_vl, dT_tl, Option.bind_some]
 rw [if_pos ⟨h, trivial, trivial⟩]
def T43 (n b : Nat) : T :=
(.call none 401 [(.v 0), (.v 1)] 2 <|
(.op none .len [(.v 5)] <|
(.join 6
 (.loop [(.c (.int 0)), (.c (.int 0)), (.c (.flt 0)), (.c (.bool false)), (.c (.int 0))]
  (.op none (.icm .lss) [(.v 11), (.v 6)] <|
  (.ite (.v 12)
   (.op none .idx [(.v 5), (.v 11)] <|
   (.op none .idx [(.v 5), (.v 11)] <|
   (.op none (.proj 0) [(.v 14)] <|
   (.op none (.proj 1) [(.v 14)] <|
   (.call none n [(.v 15), (.v 16), (.v 2), (.v 3)] 2 <|
   (.op (some ((.v 18), true)) .id [(.v 17)] <|
   (.op (some ((.v 18), true)) .id [(.v 17)] <|
   (.op (some ((.v 18), true)) (.fcm .eql .f32) [(.v 19), (.v 20)] <|
   (.op none .pick [(.v 18), (.v 21), (.c (.bool false))] <|
   (.op (some ((.v 22), true)) .id [(.v 10)] <|
   (.op (some ((.v 22), true)) .bnot [(.v 23)] <|
   (.op (some ((.v 22), true)) .id [(.v 24)] <|
   (.op (some ((.v 25), false)) .id [(.v 17)] <|
   (.op (some ((.v 25), false)) .id [(.v 9)] <|
   (.call (some ((.v 25), false)) b [(.v 26), (.v 27)] 1 <|
   (.op (some ((.v 22), true)) .pick [(.v 25), (.c (.bool true)), (.v 28)] <|
   (.op none .pick [(.v 22), (.v 29), (.c (.bool false))] <|
   (.join 4
    (.ite (.v 30)
     (.out 0 [(.v 15), (.v 16), (.v 17), (.c (.bool true))])
     (.out 0 [(.v 7), (.v 8), (.v 9), (.v 10)]))
   (.op none (.iar .add .i64) [(.v 11), (.c (.int 1))] <|
   (.out 0 [(.v 31), (.v 32), (.v 33), (.v 34), (.v 35)]))))))))))))))))))))
   (.out 1 [(.v 7), (.v 8), (.v 9), (.v 10), (.v 11), (.v 12)]))))
(.op none .bnot [(.v 10)] <|
(.ite (.v 13)
 (.out 0 [(.c (.lst [])), (.c (.flt 0)), (.c (.bool false))])
 (.op none .mklst [(.v 7), (.v 8)] <|
 (.out 0 [(.v 14), (.v 9), (.c (.bool true))])))))))
def S43L0 (n b : Nat) (G : Told) (x2 : D) (x3 : D) (e4 : List D) (x6 : D) : List D → Option (Nat × List D) := fun e7 =>
   (gev none (.icm .lss) [e7.getD 4 .undef, x6]).bind fun x12 =>
   tif x12 (
    (gev none .idx [e4.getD 1 .undef, e7.getD 4 .undef]).bind fun _x13 =>
    (gev none .idx [e4.getD 1 .undef, e7.getD 4 .undef]).bind fun x14 =>
    (gev none (.proj 0) [x14]).bind fun x15 =>
    (gev none (.proj 1) [x14]).bind fun x16 =>
    (gcall G none n [x15, x16, x2, x3] 2).bind fun e17 =>
    (gev (some ((e17.getD 1 .undef), true)) .id [e17.getD 0 .undef]).bind fun x19 =>
    (gev (some ((e17.getD 1 .undef), true)) .id [e17.getD 0 .undef]).bind fun x20 =>
    (gev (some ((e17.getD 1 .undef), true)) (.fcm .eql .f32) [x19, x20]).bind fun x21 =>
    (gev none .pick [e17.getD 1 .undef, x21, .bool false]).bind fun x22 =>
    (gev (some (x22, true)) .id [e7.getD 3 .undef]).bind fun x23 =>
    (gev (some (x22, true)) .bnot [x23]).bind fun x24 =>
    (gev (some (x22, true)) .id [x24]).bind fun x25 =>
    (gev (some (x25, false)) .id [e17.getD 0 .undef]).bind fun x26 =>
    (gev (some (x25, false)) .id [e7.getD 2 .undef]).bind fun x27 =>
    (gcall G (some (x25, false)) b [x26, x27] 1).bind fun e28 =>
    (gev (some (x22, true)) .pick [x25, .bool true, e28.getD 0 .undef]).bind fun x29 =>
    (gev none .pick [x22, x29, .bool false]).bind fun x30 =>
    tjoin 4 (
     tif x30 (
      some (0, [x15, x16, e17.getD 0 .undef, .bool true])) (
      some (0, [e7.getD 0 .undef, e7.getD 1 .undef, e7.getD 2 .undef, e7.getD 3 .undef]))) fun e31 =>
    (gev none (.iar .add .i64) [e7.getD 4 .undef, .int 1]).bind fun x35 =>
    some (0, [e31.getD 0 .undef, e31.getD 1 .undef, e31.getD 2 .undef, e31.getD 3 .undef, x35])) (
    some (1, [e7.getD 0 .undef, e7.getD 1 .undef, e7.getD 2 .undef, e7.getD 3 .undef, e7.getD 4 .undef, x12]))
def S43 (n b : Nat) (G : Told) (fuel : Nat) (x0 x1 x2 x3 : D) : Option (Nat × List D) :=
 (gcall G none 401 [x0, x1] 2).bind fun e4 =>
 (gev none .len [e4.getD 1 .undef]).bind fun x6 =>
 tjoin 6 (
  iter (tbody 5 (S43L0 n b G x2 x3 e4 x6)) fuel [.int 0, .int 0, .flt 0, .bool false, .int 0]) fun e7 =>
 (gev none .bnot [e7.getD 3 .undef]).bind fun x13 =>
 tif x13 (
  some (0, [(.lst []), (.flt 0), (.bool false)])) (
  (gev none .mklst [e7.getD 0 .undef, e7.getD 1 .undef]).bind fun x14 =>
  some (0, [x14, e7.getD 2 .undef, .bool true]))
theorem eq43 {n b : Nat} {G : Told} {fuel : Nat} (x0 x1 x2 x3 : D) : run G fuel (T43 n b) [x0, x1, x2, x3] = S43 n b G fuel x0 x1 x2 x3 := by rw [run_eq]; kernel_rfl
def T430 : T := T43 426 429
def T431 : T := T43 426 428
def T432 : T := T43 427 428
def T434 : T :=
(cc 150 [0, 1] 1 <|
oo .bnot [2] <|
.ite 3
 (.out 0 [kL, (.c (.flt 0)), kN])
 (cc 431 [0, 1, 0, 1] 3 <|
 .out 0 [4, 5, 6]))
def S434 (G : Told) (_fuel : Nat) (x0 x1 : D) : Option (Nat × List D) :=
 (gcall G none 150 [x0, x1] 1).bind fun e2 =>
 (gev none .bnot [e2.getD 0 .undef]).bind fun x3 =>
 tif x3 (
  some (0, [(.lst []), (.flt 0), (.bool false)])) (
  (gcall G none 431 [x0, x1, x0, x1] 3).bind fun e4 =>
  some (0, [e4.getD 0 .undef, e4.getD 1 .undef, e4.getD 2 .undef]))
theorem eq434 {G fuel} (x0 x1) : run G fuel T434 [x0, x1] = S434 G fuel x0 x1 := by rw [run_eq]; kernel_rfl
def T435 : T :=
(cc 150 [0, 1] 1 <|
oo .bnot [2] <|
.ite 3
 (.out 0 [kL, (.c (.flt 0)), kN])
 (cc 430 [0, 1, 0, 1] 3 <|
 .out 0 [4, 5, 6]))
def S435 (G : Told) (_fuel : Nat) (x0 x1 : D) : Option (Nat × List D) :=
 (gcall G none 150 [x0, x1] 1).bind fun e2 =>
 (gev none .bnot [e2.getD 0 .undef]).bind fun x3 =>
 tif x3 (
  some (0, [(.lst []), (.flt 0), (.bool false)])) (
  (gcall G none 430 [x0, x1, x0, x1] 3).bind fun e4 =>
  some (0, [e4.getD 0 .undef, e4.getD 1 .undef, e4.getD 2 .undef]))
theorem eq435 {G fuel} (x0 x1) : run G fuel T435 [x0, x1] = S435 G fuel x0 x1 := by rw [run_eq]; kernel_rfl
def T436 : T :=
(cc 403 [0, 1] 1 <|
oo .bnot [2] <|
.ite 3
 (.out 0 [kL, (.c (.flt 0)), kN])
 (cc 432 [0, 1, 0, 1] 3 <|
 .out 0 [4, 5, 6]))
def S436 (G : Told) (_fuel : Nat) (x0 x1 : D) : Option (Nat × List D) :=
 (gcall G none 403 [x0, x1] 1).bind fun e2 =>
 (gev none .bnot [e2.getD 0 .undef]).bind fun x3 =>
 tif x3 (
  some (0, [(.lst []), (.flt 0), (.bool false)])) (
  (gcall G none 432 [x0, x1, x0, x1] 3).bind fun e4 =>
  some (0, [e4.getD 0 .undef, e4.getD 1 .undef, e4.getD 2 .undef]))
theorem eq436 {G fuel} (x0 x1) : run G fuel T436 [x0, x1] = S436 G fuel x0 x1 := by rw [run_eq]; kernel_rfl
def bsA (es : List E2) : Option (Nat × Nat) → D | none => .int 0 | some (j, _) => .int (es.getD j (0, 0)).1
def bsB (es : List E2) : Option (Nat × Nat) → D | none => .int 0 | some (j, _) => .int (es.getD j (0, 0)).2
def bsF : Option (Nat × Nat) → D | none => .bool false | some _ => .bool true
theorem bsA_at {es : List E2} {i x : Nat} {p q : Int} (h : es.getD i (0, 0) = (p, q)) : bsA es (some (i, x)) = .int p := by
 unfold bsA
 simp only [h]
theorem bsB_at {es : List E2} {i x : Nat} {p q : Int} (h : es.getD i (0, 0) = (p, q)) : bsB es (some (i, x)) = .int q := by
 unfold bsB
 simp only [h]
theorem idx_edl {l : List E2} {i : Nat} (h : i < l.length) : gev none .idx [edl l, .int i] = some (kD (l.getD i (0, 0))) := by
 have h2 : (i : Int) < ((l.map kD).length : Int) := by simp; omega
 simp only [gev, gok, if_true, Prim.ev, edl]
 rw [if_pos ⟨by omega, h2⟩, getD_lt h]
 simp [h]
theorem len_edl {l : List E2} : gev none .len [edl l] = some (.int (l.length : Int)) := by simp [gev, gok, Prim.ev, edl]
theorem p_k0 {p q : Int} : gev none (.proj 0) [kD (p, q)] = some (.int p) := (rfl)
theorem p_k1 {p q : Int} : gev none (.proj 1) [kD (p, q)] = some (.int q) := (rfl)
attribute [local irreducible] IntKind.wrap il tl vl bo mpD kD edl inr validP sheetP longP fsub lenP atV flC flD oneI twoI pairP flipQ atL thirdP fgt flt fge feq flipB gnP edgL etl

theorem best_step {n b : Nat} {G : Told} {vs : List V3} {ts : List (List Int)} {num : E2 → Option Nat} {bet : Nat → Nat → Bool} (hn1 : ∀ p q, (inr vs.length p && inr vs.length q) = true → p ≠ q → gcall G none n [.int p, .int q, vl vs, tl ts] 2 = some (match num (p, q) with | some x => [.flt x, .bool true] | none => [.flt 0, .bool false])) (hb2 : ∀ x y, gcall G none b [.flt x, .flt y] 1 = some [.bool (bet x y)]) (hval : validP vs.length ts = true) {i : Nat} (hi : i < (edgL ts vs.length).length) (s : Option (Nat × Nat)) :
  S43L0 n b G (vl vs) (tl ts) [mpD il (byT ts).1, edl (edgL ts vs.length)] (.int ((edgL ts vs.length).length : Int)) [bsA (edgL ts vs.length) s, bsB (edgL ts vs.length) s, bsV s, bsF s, .int (i : Int)] = some (0, [bsA (edgL ts vs.length) (bstS num bet (edgL ts vs.length) s i), bsB (edgL ts vs.length) (bstS num bet (edgL ts vs.length) s i), bsV (bstS num bet (edgL ts vs.length) s i), bsF (bstS num bet (edgL ts vs.length) s i), .int ((i + 1 : Nat) : Int)]) := by
 obtain ⟨hn, _⟩ := valid_len hval
 have h0 : gev none (.icm .lss) [.int (i : Int), .int ((edgL ts vs.length).length : Int)] = some (.bool true) := by show some (D.bool (decide _)) = _;simpa using hi
 have hel := edg_len (ts := ts) hn
 have hadd := add1n (i := i) (by omega)
 have hr := idx_edl hi
 obtain ⟨p, q, he, hpq, hne, _⟩ := edg_get hi
 rw [he] at hr
 have r0 : gev none (.proj 0) [kD (p, q)] = some (.int p) := p_k0
 have r1 : gev none (.proj 1) [kD (p, q)] = some (.int q) := p_k1
 have eA : ∀ x, bsA (edgL ts vs.length) (some (i, x)) = .int p := fun x => bsA_at he
 have eB : ∀ x, bsB (edgL ts vs.length) (some (i, x)) = .int q := fun x => bsB_at he
 have c1 := hn1 p q hpq hne
 unfold S43L0
 cases hfl : num (p, q) with
 | none =>
  rw [bstS_none (by rw [he]; exact hfl)]
  rw [hfl] at c1;have c1 : gcall G none n [.int p, .int q, vl vs, tl ts] 2 = some [.flt 0, .bool false] := c1;generalize edgL ts vs.length = es at *;have f1 : True := trivial
  cases s with
  | none =>
   repeat' first
    | with_reducible refine st_ift ?_
    | with_reducible refine st_iff ?_
    | (with_reducible refine st_join (ds := [bsA es none, bsB es none, bsV none, bsF none]) ?_ ?_ ?_)
    | ((with_reducible apply st_some); exact h0)
    | ((with_reducible apply st_some); exact hr)
    | ((with_reducible apply st_some); exact r0)
    | ((with_reducible apply st_some); exact r1)
    | ((with_reducible apply st_some); exact c1)
    | ((with_reducible apply st_some); exact hadd)
    | ((with_reducible apply st_skip); exact rfl)
    | ((with_reducible apply st_f); exact rfl; exact rfl)
    | ((with_reducible apply st_some); exact rfl)
    | exact rfl
  | some s =>
   obtain ⟨j, v⟩ := s;generalize bsA es (some (j, v)) = dA at *;generalize bsB es (some (j, v)) = dB at *
   repeat' first
    | with_reducible refine st_ift ?_
    | with_reducible refine st_iff ?_
    | (with_reducible refine st_join (ds := [dA, dB, .flt v, .bool true]) ?_ ?_ ?_)
    | ((with_reducible apply st_some); exact h0)
    | ((with_reducible apply st_some); exact hr)
    | ((with_reducible apply st_some); exact r0)
    | ((with_reducible apply st_some); exact r1)
    | ((with_reducible apply st_some); exact c1)
    | ((with_reducible apply st_some); exact hadd)
    | ((with_reducible apply st_skip); exact rfl)
    | ((with_reducible apply st_f); exact rfl; exact rfl)
    | ((with_reducible apply st_some); exact rfl)
    | exact rfl
 | some L =>
 rw [bstS_some (x := L) (by rw [he]; exact hfl)]
 rw [hfl] at c1
 have c1 : gcall G none n [.int p, .int q, vl vs, tl ts] 2 = some [.flt L, .bool true] := c1
 generalize edgL ts vs.length = es at *
 have f1 : gev none (.fcm .eql .f32) [.flt L, .flt L] = some (.bool (feq .f32 L L)) := rfl
 generalize feq .f32 L L = bb at *
 cases bb with
 | false =>
  rw [if_neg (by simp)]
  cases s with
  | none =>
   repeat' first
    | with_reducible refine st_ift ?_
    | with_reducible refine st_iff ?_
    | (with_reducible refine st_join (ds := [bsA es none, bsB es none, bsV none, bsF none]) ?_ ?_ ?_)
    | ((with_reducible apply st_some); exact h0)
    | ((with_reducible apply st_some); exact hr)
    | ((with_reducible apply st_some); exact r0)
    | ((with_reducible apply st_some); exact r1)
    | ((with_reducible apply st_some); exact c1)
    | ((with_reducible apply st_some); exact f1)
    | ((with_reducible apply st_some); exact hadd)
    | ((with_reducible apply st_skip); exact rfl)
    | ((with_reducible apply st_f); exact rfl; exact rfl)
    | ((with_reducible apply st_some); exact rfl)
    | exact rfl
  | some s =>
   obtain ⟨j, v⟩ := s;generalize bsA es (some (j, v)) = dA at *;generalize bsB es (some (j, v)) = dB at *
   repeat' first
    | with_reducible refine st_ift ?_
    | with_reducible refine st_iff ?_
    | (with_reducible refine st_join (ds := [dA, dB, .flt v, .bool true]) ?_ ?_ ?_)
    | ((with_reducible apply st_some); exact h0)
    | ((with_reducible apply st_some); exact hr)
    | ((with_reducible apply st_some); exact r0)
    | ((with_reducible apply st_some); exact r1)
    | ((with_reducible apply st_some); exact c1)
    | ((with_reducible apply st_some); exact f1)
    | ((with_reducible apply st_some); exact hadd)
    | ((with_reducible apply st_skip); exact rfl)
    | ((with_reducible apply st_f); exact rfl; exact rfl)
    | ((with_reducible apply st_some); exact rfl)
    | exact rfl
 | true =>
  cases s with
  | none =>
   rw [if_pos (show (true && betO bet none L) = true from rfl), eA, eB]
   repeat' first
    | with_reducible refine st_ift ?_
    | (with_reducible refine st_join (ds := [.int p, .int q, .flt L, .bool true]) ?_ ?_ ?_)
    | ((with_reducible apply st_some); exact h0)
    | ((with_reducible apply st_some); exact hr)
    | ((with_reducible apply st_some); exact r0)
    | ((with_reducible apply st_some); exact r1)
    | ((with_reducible apply st_some); exact c1)
    | ((with_reducible apply st_some); exact f1)
    | ((with_reducible apply st_some); exact hadd)
    | ((with_reducible apply st_skip); exact rfl)
    | ((with_reducible apply st_t); exact rfl; exact rfl)
    | ((with_reducible apply st_f); exact rfl; exact rfl)
    | ((with_reducible apply st_some); exact rfl)
    | exact rfl
  | some s =>
   obtain ⟨j, v⟩ := s;have c2 : gcall G (some (.bool false, false)) b [.flt L, .flt v] 1 = some [.bool (bet L v)] := hb2 L v;rw [show betO bet (some (j, v)) L = bet L v from rfl]
   generalize bet L v = b2 at *
   cases b2
   ·rw [if_neg (by simp)]
    generalize bsA es (some (j, v)) = dA at *;generalize bsB es (some (j, v)) = dB at *
    repeat' first
     | with_reducible refine st_ift ?_
     | with_reducible refine st_iff ?_
     | (with_reducible refine st_join (ds := [dA, dB, .flt v, .bool true]) ?_ ?_ ?_)
     | ((with_reducible apply st_some); exact h0)
     | ((with_reducible apply st_some); exact hr)
     | ((with_reducible apply st_some); exact r0)
     | ((with_reducible apply st_some); exact r1)
     | ((with_reducible apply st_some); exact c1)
     | ((with_reducible apply st_some); exact f1)
     | ((with_reducible apply st_some); exact hadd)
     | ((with_reducible apply st_some); exact c2)
     | ((with_reducible apply st_t); exact rfl; exact rfl)
     | ((with_reducible apply st_f); exact rfl; exact rfl)
     | ((with_reducible apply st_some); exact rfl)
     | exact rfl
   ·rw [if_pos (show (true && true) = true from rfl), eA, eB]
    repeat' first
     | with_reducible refine st_ift ?_
     | (with_reducible refine st_join (ds := [.int p, .int q, .flt L, .bool true]) ?_ ?_ ?_)
     | ((with_reducible apply st_some); exact h0)
     | ((with_reducible apply st_some); exact hr)
     | ((with_reducible apply st_some); exact r0)
     | ((with_reducible apply st_some); exact r1)
     | ((with_reducible apply st_some); exact c1)
     | ((with_reducible apply st_some); exact f1)
     | ((with_reducible apply st_some); exact hadd)
     | ((with_reducible apply st_some); exact c2)
     | ((with_reducible apply st_t); exact rfl; exact rfl)
     | ((with_reducible apply st_f); exact rfl; exact rfl)
     | ((with_reducible apply st_some); exact rfl)
     | exact rfl
theorem run43 {n b : Nat} {G : Told} (g401 : G 401 = F401) {vs : List V3} {ts : List (List Int)} {num : E2 → Option Nat} {bet : Nat → Nat → Bool} (hn1 : ∀ p q, (inr vs.length p && inr vs.length q) = true → p ≠ q → gcall G none n [.int p, .int q, vl vs, tl ts] 2 = some (match num (p, q) with | some x => [.flt x, .bool true] | none => [.flt 0, .bool false])) (hb2 : ∀ x y, gcall G none b [.flt x, .flt y] 1 = some [.bool (bet x y)]) (hc : validP vs.length ts = true) : run G 100000 (T43 n b) [vl vs, tl ts, vl vs, tl ts] = some (0, bstP num bet (edgL ts vs.length)) := by
 obtain ⟨hn, _⟩ := valid_len hc
 have hel := edg_len (ts := ts) hn
 rw [eq43]
 unfold S43
 have c0 : gcall G none 401 [vl vs, tl ts] 2 = some [mpD il (byT ts).1, edl (edgL ts vs.length)] := gcall_on g401 rfl (by rw [F401_m (valid64 hc), sort_edges (triOk_of hc)]) rfl
 have hlen := len_edl (l := edgL ts vs.length)
 have hit : iter (tbody 5 (S43L0 n b G (vl vs) (tl ts) [mpD il (byT ts).1, edl (edgL ts vs.length)] (.int ((edgL ts vs.length).length : Int)))) 100000 [.int 0, .int 0, .flt 0, .bool false, .int 0] = some (0, [bsA (edgL ts vs.length) (bstN num bet (edgL ts vs.length) (edgL ts vs.length).length), bsB (edgL ts vs.length) (bstN num bet (edgL ts vs.length) (edgL ts vs.length).length), bsV (bstN num bet (edgL ts vs.length) (edgL ts vs.length).length), bsF (bstN num bet (edgL ts vs.length) (edgL ts vs.length).length), .int ((edgL ts vs.length).length : Int), .bool false]) := by
  refine iter_to (body := tbody 5 (S43L0 n b G (vl vs) (tl ts) [mpD il (byT ts).1, edl (edgL ts vs.length)] (.int ((edgL ts vs.length).length : Int)))) (n := (edgL ts vs.length).length) (f := 100000) (l := 0) (fun i => [bsA (edgL ts vs.length) (bstN num bet (edgL ts vs.length) i), bsB (edgL ts vs.length) (bstN num bet (edgL ts vs.length) i), bsV (bstN num bet (edgL ts vs.length) i), bsF (bstN num bet (edgL ts vs.length) i), .int (i : Int)]) (by omega) (fun i hi => ?_) ?_
  ·exact tb rfl (best_step hn1 hb2 hc hi (bstN num bet (edgL ts vs.length) i))
  refine tb rfl ?_;have h0 : decide (((edgL ts vs.length).length : Int) < ((edgL ts vs.length).length : Int)) = false := by simp
  unfold S43L0;simp only [ev0, p_add, Nat.zero_add, h0]
 unfold bstP
 have hlt := fun j v => @bstN_lt num bet (edgL ts vs.length) (edgL ts vs.length).length j v
 generalize bstN num bet (edgL ts vs.length) (edgL ts vs.length).length = s at *
 cases s with
 | none =>
  have hit : iter (tbody 5 (S43L0 n b G (vl vs) (tl ts) [mpD il (byT ts).1, edl (edgL ts vs.length)] (.int ((edgL ts vs.length).length : Int)))) 100000 [.int 0, .int 0, .flt 0, .bool false, .int 0] = some (0, [bsA (edgL ts vs.length) none, bsB (edgL ts vs.length) none, .flt 0, .bool false, .int ((edgL ts vs.length).length : Int), .bool false]) := hit;rw [bstR_none];simp only [ev0, j_0, List.length_cons, List.length_nil, Nat.zero_add, Nat.reduceAdd, if_true, c0, hlen, hit, ← il_nil]
 | some s =>
  obtain ⟨j, v⟩ := s;obtain ⟨p, q, he, hpq, hne, hr⟩ := edg_get (hlt j v rfl);have hit : iter (tbody 5 (S43L0 n b G (vl vs) (tl ts) [mpD il (byT ts).1, edl (edgL ts vs.length)] (.int ((edgL ts vs.length).length : Int)))) 100000 [.int 0, .int 0, .flt 0, .bool false, .int 0] = some (0, [.int p, .int q, .flt v, .bool true, .int ((edgL ts vs.length).length : Int), .bool false]) := by rw [← bsA_at (x := v) he, ← bsB_at (x := v) he];exact hit
  rw [bstR_some he];simp only [ev0, j_0, List.length_cons, List.length_nil, Nat.zero_add, Nat.reduceAdd, if_true, c0, hlen, hit, p_il2]
theorem run430 {G : Told} (g401 : G 401 = F401) (g426 : G 426 = F426) (g429 : G 429 = F429) : Runs G F430 T430 := by
 intro ds rs h
 unfold F430 at h
 split at h
 case h_2 => cases h
 rename_i a b c d
 obtain ⟨vs, ha, h⟩ := Option.bind_eq_some_iff.1 h
 obtain ⟨ts, hb, h⟩ := Option.bind_eq_some_iff.1 h
 split at h
 case isFalse => cases h
 rename_i hc
 simp only [Option.some.injEq] at h
 subst h
 obtain ⟨hc, rfl, rfl⟩ := hc
 rw [dV_inv ha, dT_inv hb]
 exact ⟨100000, run43 g401 (fun p q hpq _ => gcall_on g426 rfl (F426_m hpq) rfl) (fun x y => gcall_on g429 rfl rfl rfl) hc⟩
theorem run431 {G : Told} (g401 : G 401 = F401) (g426 : G 426 = F426) (g428 : G 428 = F428) : Runs G F431 T431 := by
 intro ds rs h
 unfold F431 at h
 split at h
 case h_2 => cases h
 rename_i a b c d
 obtain ⟨vs, ha, h⟩ := Option.bind_eq_some_iff.1 h
 obtain ⟨ts, hb, h⟩ := Option.bind_eq_some_iff.1 h
 split at h
 case isFalse => cases h
 rename_i hc
 simp only [Option.some.injEq] at h
 subst h
 obtain ⟨hc, rfl, rfl⟩ := hc
 rw [dV_inv ha, dT_inv hb]
 exact ⟨100000, run43 g401 (fun p q hpq _ => gcall_on g426 rfl (F426_m hpq) rfl) (fun x y => gcall_on g428 rfl rfl rfl) hc⟩
theorem run432 {G : Told} (g401 : G 401 = F401) (g427 : G 427 = F427) (g428 : G 428 = F428) : Runs G F432 T432 := by
 intro ds rs h
 unfold F432 at h
 split at h
 case h_2 => cases h
 rename_i a b c d
 obtain ⟨vs, ha, h⟩ := Option.bind_eq_some_iff.1 h
 obtain ⟨ts, hb, h⟩ := Option.bind_eq_some_iff.1 h
 split at h
 case isFalse => cases h
 rename_i hc
 simp only [Option.some.injEq] at h
 subst h
 obtain ⟨hc, rfl, rfl⟩ := hc
 rw [dV_inv ha, dT_inv hb]
 exact ⟨100000, run43 g401 (fun p q hpq hne => gcall_on g427 rfl ((F417_m (ok_of hc hpq hne)).trans (by unfold numF; cases flipB ts p q <;> rfl)) (by split <;> rfl)) (fun x y => gcall_on g428 rfl rfl rfl) hc⟩
theorem run434 {G : Told} (g150 : G 150 = F150) (g431 : G 431 = F431) : Runs G F434 T434 := by
 intro ds rs h
 unfold F434 at h
 split at h
 case h_2 => cases h
 rename_i a b
 obtain ⟨vs, ha, h⟩ := Option.bind_eq_some_iff.1 h
 obtain ⟨ts, hb, h⟩ := Option.bind_eq_some_iff.1 h
 rw [dV_inv ha, dT_inv hb]
 split at h
 case isFalse => cases h
 rename_i hc
 simp only [Option.some.injEq] at h
 subst h
 clear ha
 clear hb
 refine ⟨0, ?_⟩
 rw [eq434]
 unfold S434
 have c0 : gcall G none 150 [vl vs, tl ts] 1 = some [.bool (validP vs.length ts)] := gcall_on g150 rfl (F150_m hc) rfl
 cases hval : validP vs.length ts with
 | false =>
  rw [hval] at c0;rw [if_neg (by simp), bstR_none]
  simp only [ev0, c0, ← il_nil]
 | true =>
  rw [hval] at c0;rw [if_pos rfl];obtain ⟨l, x, b, e, _⟩ := bst3 (edgL ts vs.length) (bstN (numL vs) (betL true) (edgL ts vs.length) (edgL ts vs.length).length);have c1 : gcall G none 431 [vl vs, tl ts, vl vs, tl ts] 3 = some (bstP (numL vs) (betL true) (edgL ts vs.length)) := gcall_on g431 rfl (F431_m hval) (by unfold bstP; rw [e]; rfl)
  unfold bstP at c1 ⊢;rw [e] at c1 ⊢;simp only [ev0, c0, c1]
theorem run435 {G : Told} (g150 : G 150 = F150) (g430 : G 430 = F430) : Runs G F435 T435 := by
 intro ds rs h
 unfold F435 at h
 split at h
 case h_2 => cases h
 rename_i a b
 obtain ⟨vs, ha, h⟩ := Option.bind_eq_some_iff.1 h
 obtain ⟨ts, hb, h⟩ := Option.bind_eq_some_iff.1 h
 rw [dV_inv ha, dT_inv hb]
 split at h
 case isFalse => cases h
 rename_i hc
 simp only [Option.some.injEq] at h
 subst h
 clear ha
 clear hb
 refine ⟨0, ?_⟩
 rw [eq435]
 unfold S435
 have c0 : gcall G none 150 [vl vs, tl ts] 1 = some [.bool (validP vs.length ts)] := gcall_on g150 rfl (F150_m hc) rfl
 cases hval : validP vs.length ts with
 | false =>
  rw [hval] at c0;rw [if_neg (by simp), bstR_none]
  simp only [ev0, c0, ← il_nil]
 | true =>
  rw [hval] at c0;rw [if_pos rfl];obtain ⟨l, x, b, e, _⟩ := bst3 (edgL ts vs.length) (bstN (numL vs) (betL false) (edgL ts vs.length) (edgL ts vs.length).length);have c1 : gcall G none 430 [vl vs, tl ts, vl vs, tl ts] 3 = some (bstP (numL vs) (betL false) (edgL ts vs.length)) := gcall_on g430 rfl (F430_m hval) (by unfold bstP; rw [e]; rfl)
  unfold bstP at c1 ⊢;rw [e] at c1 ⊢;simp only [ev0, c0, c1]
theorem run436 {G : Told} (g403 : G 403 = F403) (g432 : G 432 = F432) : Runs G F436 T436 := by
 intro ds rs h
 unfold F436 at h
 split at h
 case h_2 => cases h
 rename_i a b
 obtain ⟨vs, ha, h⟩ := Option.bind_eq_some_iff.1 h
 obtain ⟨ts, hb, h⟩ := Option.bind_eq_some_iff.1 h
 rw [dV_inv ha, dT_inv hb]
 split at h
 case isFalse => cases h
 rename_i hc
 simp only [Option.some.injEq] at h
 subst h
 clear ha
 clear hb
 refine ⟨0, ?_⟩
 rw [eq436]
 unfold S436
 have c0 : gcall G none 403 [vl vs, tl ts] 1 = some [.bool ((validP vs.length ts && sheetP ts))] := gcall_on g403 rfl (F403_m hc) rfl
 cases hval : (validP vs.length ts && sheetP ts) with
 | false =>
  rw [hval] at c0;rw [if_neg (by simp), bstR_none]
  simp only [ev0, c0, ← il_nil]
 | true =>
  rw [hval] at c0;rw [if_pos rfl];obtain ⟨l, x, b, e, _⟩ := bst3 (edgL ts vs.length) (bstN (numF vs ts) (betL true) (edgL ts vs.length) (edgL ts vs.length).length);have c1 : gcall G none 432 [vl vs, tl ts, vl vs, tl ts] 3 = some (bstP (numF vs ts) (betL true) (edgL ts vs.length)) := gcall_on g432 rfl (F432_m (Bool.and_eq_true _ _ ▸ hval).1) (by unfold bstP; rw [e]; rfl)
  unfold bstP at c1 ⊢;rw [e] at c1 ⊢;simp only [ev0, c0, c1]
end Vs
