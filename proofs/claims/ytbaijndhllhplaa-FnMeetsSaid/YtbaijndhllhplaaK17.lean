/-
  MeetRest: what the functions compute, and the law.
-/
import Derived.Test.YtbaijndhllhplaaK4
set_option maxHeartbeats 4000000
namespace Vs
open Go
def nilV (v : V3) : Bool := feq .f32 v.x 0 && (feq .f32 v.y 0 && (feq .f32 v.z 0 && true))
def badV (v : V3) : Bool := !v.fin || nilV v
def longV3 (v : V3) : Nat := longP v.x v.y v.z
def unitV (v : V3) : V3 := V3.scale v (part1 (longV3 v))
def restV (x y z : V3) : Nat := longV3 (V3.add (V3.add (unitV x) (unitV y)) (unitV z))
def F301 : List D → Option (List D)
 | [.flt a, .flt b, .flt c, .flt d, .flt e, .flt f, .flt g, .flt h, .flt i] =>
  some (if badV ⟨a, b, c⟩ = true ∨ badV ⟨d, e, f⟩ = true ∨ badV ⟨g, h, i⟩ = true then [.flt 0, .bool false] else [.flt (restV ⟨a, b, c⟩ ⟨d, e, f⟩ ⟨g, h, i⟩), .bool true])
 | _ => none
def T301 : T :=
(oo .mklst [] <|
oo .mkagg [0, 1, 2] <|
oo .mkagg [3, 4, 5] <|
oo .mkagg [6, 7, 8] <|
oo .mklst [10, 11, 12] <|
oo .len [13] <|
.join 3
 (.loop [9, kI 0]
  (oo (.icm .lss) [16, 14] <|
  .ite 17
   (oo .idx [13, 16] <|
   oo .idx [13, 16] <|
   oo (.proj 0) [19] <|
   oo (.proj 1) [19] <|
   oo (.proj 2) [19] <|
   cc 18 [20, 21, 22] 1 <|
   oo .bnot [23] <|
   oN 24 (.aeq [(some .f32), (some .f32), (some .f32)] false) [20, 21, 22, kF 0, kF 0, kF 0] <|
   oo .pick [24, kT, 25] <|
   .ite 26
    (.out 2 [kF 0, kN])
    (cc 15 [20, 21, 22] 1 <|
    oo (.far .quo .f32) [kF 1065353216, 27] <|
    cc 31 [20, 21, 22, 28] 3 <|
    oo .mkagg [29, 30, 31] <|
    oo .mklst [32] <|
    oo .app [15, 33] <|
    oo (.iar .add .i64) [16, kI 1] <|
    .out 0 [34, 35]))
   (.out 1 [15, 16, 17])))
(oo .idx [15, kI 0] <|
oo .idx [15, kI 0] <|
oo (.proj 0) [19] <|
oo (.proj 1) [19] <|
oo (.proj 2) [19] <|
oo .idx [15, kI 1] <|
oo .idx [15, kI 1] <|
oo (.proj 0) [24] <|
oo (.proj 1) [24] <|
oo (.proj 2) [24] <|
cc 30 [20, 21, 22, 25, 26, 27] 3 <|
oo .idx [15, kI 2] <|
oo .idx [15, kI 2] <|
oo (.proj 0) [32] <|
oo (.proj 1) [32] <|
oo (.proj 2) [32] <|
cc 30 [28, 29, 30, 33, 34, 35] 3 <|
cc 15 [36, 37, 38] 1 <|
.out 0 [39, kT]))
def S301L0 (G : Told) (x13 : D) (x14 : D) : List D → Option (Nat × List D) := fun e15 =>
   (gev none (.icm .lss) [e15.getD 1 .undef, x14]).bind fun x17 =>
   tif x17 (
    (gev none .idx [x13, e15.getD 1 .undef]).bind fun _x18 =>
    (gev none .idx [x13, e15.getD 1 .undef]).bind fun x19 =>
    (gev none (.proj 0) [x19]).bind fun x20 =>
    (gev none (.proj 1) [x19]).bind fun x21 =>
    (gev none (.proj 2) [x19]).bind fun x22 =>
    (gcall G none 18 [x20, x21, x22] 1).bind fun e23 =>
    (gev none .bnot [e23.getD 0 .undef]).bind fun x24 =>
    (gev (some (x24, false)) (.aeq [(some .f32), (some .f32), (some .f32)] false) [x20, x21, x22, .flt 0, .flt 0, .flt 0]).bind fun x25 =>
    (gev none .pick [x24, .bool true, x25]).bind fun x26 =>
    tif x26 (
     some (2, [.flt 0, .bool false])) (
     (gcall G none 15 [x20, x21, x22] 1).bind fun e27 =>
     (gev none (.far .quo .f32) [.flt 1065353216, e27.getD 0 .undef]).bind fun x28 =>
     (gcall G none 31 [x20, x21, x22, x28] 3).bind fun e29 =>
     (gev none .mkagg [e29.getD 0 .undef, e29.getD 1 .undef, e29.getD 2 .undef]).bind fun x32 =>
     (gev none .mklst [x32]).bind fun x33 =>
     (gev none .app [e15.getD 0 .undef, x33]).bind fun x34 =>
     (gev none (.iar .add .i64) [e15.getD 1 .undef, .int 1]).bind fun x35 =>
     some (0, [x34, x35]))) (
    some (1, [e15.getD 0 .undef, e15.getD 1 .undef, x17]))
def S301 (G : Told) (fuel : Nat) (x0 x1 x2 x3 x4 x5 x6 x7 x8 : D) : Option (Nat × List D) :=
 (gev none .mklst []).bind fun x9 =>
 (gev none .mkagg [x0, x1, x2]).bind fun x10 =>
 (gev none .mkagg [x3, x4, x5]).bind fun x11 =>
 (gev none .mkagg [x6, x7, x8]).bind fun x12 =>
 (gev none .mklst [x10, x11, x12]).bind fun x13 =>
 (gev none .len [x13]).bind fun x14 =>
 tjoin 3 (
  iter (tbody 2 (S301L0 G x13 x14)) fuel [x9, .int 0]) fun e15 =>
 (gev none .idx [e15.getD 0 .undef, .int 0]).bind fun _x18 =>
 (gev none .idx [e15.getD 0 .undef, .int 0]).bind fun x19 =>
 (gev none (.proj 0) [x19]).bind fun x20 =>
 (gev none (.proj 1) [x19]).bind fun x21 =>
 (gev none (.proj 2) [x19]).bind fun x22 =>
 (gev none .idx [e15.getD 0 .undef, .int 1]).bind fun _x23 =>
 (gev none .idx [e15.getD 0 .undef, .int 1]).bind fun x24 =>
 (gev none (.proj 0) [x24]).bind fun x25 =>
 (gev none (.proj 1) [x24]).bind fun x26 =>
 (gev none (.proj 2) [x24]).bind fun x27 =>
 (gcall G none 30 [x20, x21, x22, x25, x26, x27] 3).bind fun e28 =>
 (gev none .idx [e15.getD 0 .undef, .int 2]).bind fun _x31 =>
 (gev none .idx [e15.getD 0 .undef, .int 2]).bind fun x32 =>
 (gev none (.proj 0) [x32]).bind fun x33 =>
 (gev none (.proj 1) [x32]).bind fun x34 =>
 (gev none (.proj 2) [x32]).bind fun x35 =>
 (gcall G none 30 [e28.getD 0 .undef, e28.getD 1 .undef, e28.getD 2 .undef, x33, x34, x35] 3).bind fun e36 =>
 (gcall G none 15 [e36.getD 0 .undef, e36.getD 1 .undef, e36.getD 2 .undef] 1).bind fun e39 =>
 some (0, [e39.getD 0 .undef, .bool true])
theorem eq301 {G fuel} (x0 x1 x2 x3 x4 x5 x6 x7 x8) : run G fuel T301 [x0, x1, x2, x3, x4, x5, x6, x7, x8] = S301 G fuel x0 x1 x2 x3 x4 x5 x6 x7 x8 := by rw [run_eq]; kernel_rfl
attribute [local irreducible] fadd fsub fmul fdiv finP feq flt fle rootP longP innerP V3.fin

theorem step301 {G : Told} (g15 : G 15 = F15) (g18 : G 18 = F18) (g31 : G 31 = F31) {vs us : List V3} {i : Nat} (hi : i < vs.length) (hv : vs.length = 3) (hu : us.length = i) :
  tbody 2 (S301L0 G (vl vs) (.int 3)) [vl us, .int i] = some (if badV vs[i] = true then (2, [.flt 0, .bool false]) else (0, [vl (us ++ [unitV vs[i]]), .int ((i + 1 : Nat) : Int)])) := by
 show S301L0 G (vl vs) (.int 3) [vl us, .int i] = _
 unfold S301L0
 have hx := idx_vl hi
 generalize vs[i] = v at *
 have c1 : gev none (.icm .lss) [.int i, .int 3] = some (.bool true) := by simp [gev, gok, Prim.ev, icmp]; omega
 have e18 : F18 [.flt v.x, .flt v.y, .flt v.z] = some [.bool v.fin] := rfl
 have ha := app_vl (l := us) (v := unitV v) (by omega)
 have hi1 := add1n (i := i) (by omega)
 cases hf : V3.fin v
 ·rw [hf] at e18
  rw [if_pos (by simp [badV, hf])]
  repeat' first
   | with_reducible refine st_ift ?_
   | with_reducible refine st_iff ?_
   | ((with_reducible apply st_call); exact g18; exact rfl; exact e18; exact rfl)
   | ((with_reducible apply st_some); exact c1)
   | ((with_reducible apply st_some); exact hx)
   | ((with_reducible apply st_callt); assumption; exact rfl; exact rfl; assumption)
   | ((with_reducible apply st_callf); assumption; exact rfl; exact rfl; assumption)
   | ((with_reducible apply st_call); assumption; exact rfl; exact rfl; exact rfl)
   | ((with_reducible apply st_wide); exact rfl; exact rfl)
   | ((with_reducible apply st_skip); exact rfl)
   | ((with_reducible apply st_t); exact rfl; exact rfl)
   | ((with_reducible apply st_f); exact rfl; exact rfl)
   | ((with_reducible apply st_t); exact rfl; assumption)
   | ((with_reducible apply st_f); exact rfl; assumption)
   | ((with_reducible apply st_some); exact rfl)
   | exact rfl
 ·rw [hf] at e18
  have e6 : gev (some (.bool false, false)) (.aeq [(some .f32), (some .f32), (some .f32)] false) [.flt v.x, .flt v.y, .flt v.z, (.flt 0), (.flt 0), (.flt 0)] = some (.bool (nilV v)) := rfl
  cases hn : nilV v
  ·rw [hn] at e6
   rw [if_neg (by simp [badV, hf, hn])]
   repeat' first
    | with_reducible refine st_ift ?_
    | with_reducible refine st_iff ?_
    | ((with_reducible apply st_call); exact g18; exact rfl; exact e18; exact rfl)
    | ((with_reducible apply st_some); exact c1)
    | ((with_reducible apply st_some); exact hx)
    | ((with_reducible apply st_some); exact e6)
    | ((with_reducible apply st_some); exact ha)
    | ((with_reducible apply st_some); exact hi1)
    | ((with_reducible apply st_callt); assumption; exact rfl; exact rfl; assumption)
    | ((with_reducible apply st_callf); assumption; exact rfl; exact rfl; assumption)
    | ((with_reducible apply st_call); assumption; exact rfl; exact rfl; exact rfl)
    | ((with_reducible apply st_wide); exact rfl; exact rfl)
    | ((with_reducible apply st_skip); exact rfl)
    | ((with_reducible apply st_t); exact rfl; exact rfl)
    | ((with_reducible apply st_f); exact rfl; exact rfl)
    | ((with_reducible apply st_t); exact rfl; assumption)
    | ((with_reducible apply st_f); exact rfl; assumption)
    | ((with_reducible apply st_some); exact rfl)
    | exact rfl
  ·rw [hn] at e6
   rw [if_pos (by simp [badV, hn])]
   repeat' first
    | with_reducible refine st_ift ?_
    | with_reducible refine st_iff ?_
    | ((with_reducible apply st_call); exact g18; exact rfl; exact e18; exact rfl)
    | ((with_reducible apply st_some); exact c1)
    | ((with_reducible apply st_some); exact hx)
    | ((with_reducible apply st_some); exact e6)
    | ((with_reducible apply st_callt); assumption; exact rfl; exact rfl; assumption)
    | ((with_reducible apply st_callf); assumption; exact rfl; exact rfl; assumption)
    | ((with_reducible apply st_call); assumption; exact rfl; exact rfl; exact rfl)
    | ((with_reducible apply st_wide); exact rfl; exact rfl)
    | ((with_reducible apply st_skip); exact rfl)
    | ((with_reducible apply st_t); exact rfl; exact rfl)
    | ((with_reducible apply st_f); exact rfl; exact rfl)
    | ((with_reducible apply st_t); exact rfl; assumption)
    | ((with_reducible apply st_f); exact rfl; assumption)
    | ((with_reducible apply st_some); exact rfl)
    | exact rfl
theorem run301 {G : Told} (g15 : G 15 = F15) (g18 : G 18 = F18) (g30 : G 30 = F30) (g31 : G 31 = F31) : Runs G F301 T301 := by
 intro ds rs h
 unfold F301 at h
 split at h
 case h_2 => cases h
 rename_i a b c d e f g h1 i
 simp only [Option.some.injEq] at h
 subst h
 refine ⟨4, ?_⟩
 rw [eq301]
 unfold S301
 have b0 := fun us hu => step301 g15 g18 g31 (vs := [⟨a, b, c⟩, ⟨d, e, f⟩, ⟨g, h1, i⟩]) (us := us) (i := 0) (by simp) rfl hu
 have b1 := fun us hu => step301 g15 g18 g31 (vs := [⟨a, b, c⟩, ⟨d, e, f⟩, ⟨g, h1, i⟩]) (us := us) (i := 1) (by simp) rfl hu
 have b2 := fun us hu => step301 g15 g18 g31 (vs := [⟨a, b, c⟩, ⟨d, e, f⟩, ⟨g, h1, i⟩]) (us := us) (i := 2) (by simp) rfl hu
 simp only [List.getElem_cons_zero, List.getElem_cons_succ] at b0 b1 b2
 have c0 := b0 [] rfl
 have c1 := b1 [unitV ⟨a, b, c⟩] rfl
 have c2 := b2 [unitV ⟨a, b, c⟩, unitV ⟨d, e, f⟩] rfl
 clear b0 b1 b2
 generalize hx : (⟨a, b, c⟩ : V3) = x at *
 generalize hy : (⟨d, e, f⟩ : V3) = y at *
 generalize hz : (⟨g, h1, i⟩ : V3) = z at *
 have hL : iter (tbody 2 (S301L0 G (vl [x, y, z]) (.int 3))) 4 [.lst [], .int 0] = (if badV x = true ∨ badV y = true ∨ badV z = true then some (1, [.flt 0, .bool false]) else some (0, [vl [unitV x, unitV y, unitV z], .int 3, .bool false])) := by
  cases hb0 : badV x
  ·rw [hb0, if_neg (by decide)] at c0
   refine iter_go c0 ?_
   cases hb1 : badV y
   ·rw [hb1, if_neg (by decide)] at c1
    refine iter_go c1 ?_
    cases hb2 : badV z
    ·rw [hb2, if_neg (by decide)] at c2
     refine iter_go c2 ?_;rw [if_neg (by decide)]
     exact iter_end (f := 0) (l := 0) rfl rfl
    ·rw [hb2, if_pos rfl] at c2
     rw [if_pos (by simp)]
     exact iter_end c2 rfl
   ·rw [hb1, if_pos rfl] at c1
    rw [if_pos (by simp)]
    exact iter_end c1 rfl
  ·rw [hb0, if_pos rfl] at c0
   rw [if_pos (by simp)]
   exact iter_end c0 rfl
 have hd : D.lst [D.agg [.flt a, .flt b, .flt c], D.agg [.flt d, .flt e, .flt f], D.agg [.flt g, .flt h1, .flt i]] = vl [x, y, z] := by subst hx hy hz;rfl
 have m0 : gev none .mklst [D.agg [.flt a, .flt b, .flt c], D.agg [.flt d, .flt e, .flt f], D.agg [.flt g, .flt h1, .flt i]] = some (vl [x, y, z]) := by rw [← hd]; rfl
 by_cases hbad : badV x = true ∨ badV y = true ∨ badV z = true
 ·rw [if_pos hbad] at hL
  rw [if_pos hbad]
  repeat' first
   | with_reducible refine st_ift ?_
   | with_reducible refine st_iff ?_
   | ((with_reducible apply st_some); exact m0)
   | ((with_reducible apply st_out); exact hL; exact rfl)
   | ((with_reducible apply st_callt); assumption; exact rfl; exact rfl; assumption)
   | ((with_reducible apply st_callf); assumption; exact rfl; exact rfl; assumption)
   | ((with_reducible apply st_call); assumption; exact rfl; exact rfl; exact rfl)
   | ((with_reducible apply st_wide); exact rfl; exact rfl)
   | ((with_reducible apply st_skip); exact rfl)
   | ((with_reducible apply st_t); exact rfl; exact rfl)
   | ((with_reducible apply st_f); exact rfl; exact rfl)
   | ((with_reducible apply st_t); exact rfl; assumption)
   | ((with_reducible apply st_f); exact rfl; assumption)
   | ((with_reducible apply st_some); exact rfl)
   | exact rfl
 ·rw [if_neg hbad] at hL
  rw [if_neg hbad]
  repeat' first
   | with_reducible refine st_ift ?_
   | with_reducible refine st_iff ?_
   | ((with_reducible apply st_some); exact m0)
   | ((with_reducible apply st_join); exact hL; exact rfl)
   | ((with_reducible apply st_callt); assumption; exact rfl; exact rfl; assumption)
   | ((with_reducible apply st_callf); assumption; exact rfl; exact rfl; assumption)
   | ((with_reducible apply st_call); assumption; exact rfl; exact rfl; exact rfl)
   | ((with_reducible apply st_wide); exact rfl; exact rfl)
   | ((with_reducible apply st_skip); exact rfl)
   | ((with_reducible apply st_t); exact rfl; exact rfl)
   | ((with_reducible apply st_f); exact rfl; exact rfl)
   | ((with_reducible apply st_t); exact rfl; assumption)
   | ((with_reducible apply st_f); exact rfl; assumption)
   | ((with_reducible apply st_some); exact rfl)
   | exact rfl
end Vs
