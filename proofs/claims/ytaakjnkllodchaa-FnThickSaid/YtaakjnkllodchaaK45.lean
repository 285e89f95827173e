/-
  CutHole, and its law.
-/
import Derived.Test.YtaakjnkllodchaaK9
import Derived.Test.YtaakjnkllodchaaNx3
set_option maxHeartbeats 4000000
namespace Vs
open Go Go.Sort
theorem inr_iff' {n p : Int} : inr n p = true ↔ 0 ≤ p ∧ p < n := by
 unfold inr
 simp only [Bool.and_eq_true, decide_eq_true_eq]
 omega
def holL (ts : List (List Int)) (k : Nat) : List (List Int) := ts.take k ++ ts.drop (k + 1)
def cutP (vs : List V3) (ts : List (List Int)) (i : Int) : List D := if (validP vs.length ts && inr ts.length i) = true then [vl vs, tl (holL ts i.toNat), .bool true] else [vl [], tl [], .bool false]
noncomputable def F531 : List D → Option (List D)
 | [a, b, .int i] => (dV a).bind fun vs => (dT b).bind fun ts => if szM vs ts ≤ 1048576 then some (cutP vs ts i) else none
 | _ => none
theorem F531_m {vs : List V3} {ts : List (List Int)} {i : Int} (h : szM vs ts ≤ 1048576) : F531 [vl vs, tl ts, .int i] = some (cutP vs ts i) := by
 simp only [F531, dV_vl, dT_tl, Option.bind_some]
 rw [if_pos h]
theorem F440_tl {ts : List (List Int)} {i : Int} (h : inr ts.length i = true) (hl : ts.length ≤ 1048576) : F440 [tl ts, .int i, .int (i + 1)] = some [tl (holL ts i.toNat)] := by
 have hb := inr_iff'.1 h
 unfold tl F440
 dsimp only
 rw [if_pos ⟨rfl, hb.1, by simpa using hb.2, by simpa using hl⟩]
 unfold holL
 simp [List.map_take, List.map_drop]
theorem q_add {x y : Int} : gev none (.iar .add .i64) [.int x, .int y] = some (.int (IntKind.wrap .i64 (x + y))) := (rfl)
theorem q_bnot {c : Bool} : gev none .bnot [.bool c] = some (.bool !c) := (rfl)
theorem wrap_id' {x : Int} (h0 : -9223372036854775808 ≤ x) (h1 : x < 9223372036854775808) : IntKind.wrap .i64 x = x := by
 simp only [IntKind.wrap, IntKind.bits, IntKind.signed]
 have e : (2 : Int) ^ 64 = 18446744073709551616 := by decide
 simp only [e, Bool.true_and]
 split
 ·rename_i h
  simp at h;omega
 ·rename_i h
  simp at h;omega
def T531 : T :=
(cc 156 [0, 1, 2] 1 <|
oo .bnot [3] <|
.ite 4
 (.out 0 [kL, kL, kN])
 (cc 151 [0, 1] 2 <|
 oo (.iar .add .i64) [2, kI 1] <|
 cc 440 [6, 2, 7] 1 <|
 .out 0 [5, 8, kT]))
def S531 (G : Told) (_fuel : Nat) (x0 x1 x2 : D) : Option (Nat × List D) :=
 (gcall G none 156 [x0, x1, x2] 1).bind fun e3 =>
 (gev none .bnot [e3.getD 0 .undef]).bind fun x4 =>
 tif x4 (
  some (0, [(.lst []), (.lst []), (.bool false)])) (
  (gcall G none 151 [x0, x1] 2).bind fun e5 =>
  (gev none (.iar .add .i64) [x2, .int 1]).bind fun x7 =>
  (gcall G none 440 [e5.getD 1 .undef, x2, x7] 1).bind fun e8 =>
  some (0, [e5.getD 0 .undef, e8.getD 0 .undef, .bool true]))
theorem eq531 {G fuel} (x0 x1 x2) : run G fuel T531 [x0, x1, x2] = S531 G fuel x0 x1 x2 := by rw [run_eq]; kernel_rfl
attribute [local irreducible] IntKind.wrap il tl vl inr validP szM holL

theorem run531 {G : Told} (g151 : G 151 = F151) (g156 : G 156 = F156) (g440 : G 440 = F440) : Runs G F531 T531 := by
 intro ds rs h
 unfold F531 at h
 split at h
 case h_2 => cases h
 rename_i a b i
 obtain ⟨vs, ha, h⟩ := Option.bind_eq_some_iff.1 h
 obtain ⟨ts, hb, h⟩ := Option.bind_eq_some_iff.1 h
 rw [dV_inv ha, dT_inv hb]
 split at h
 case isFalse => cases h
 rename_i hc
 simp only [Option.some.injEq] at h
 subst h
 clear ha hb
 refine ⟨0, ?_⟩
 rw [eq531]
 unfold S531 cutP
 have k1 : gcall G none 156 [vl vs, tl ts, .int i] 1 = some [.bool (validP vs.length ts && inr ts.length i)] := gcall_on g156 rfl (F156_m hc) rfl
 cases hv : (validP vs.length ts && inr ts.length i) with
 | false =>
  rw [hv] at k1;rw [if_neg (by simp)]
  refine st_some k1 ?_;refine st_some q_bnot ?_;refine st_ift ?_;rw [show D.lst [] = tl [] by unfold tl; rfl, show vl [] = tl [] by unfold vl tl; rfl]
 | true =>
  rw [hv] at k1;rw [if_pos rfl];simp only [Bool.and_eq_true] at hv;have hb := inr_iff'.1 hv.2;have hl : ts.length ≤ 128 := by have := hv.1;unfold validP at this;simp only [Bool.and_eq_true, decide_eq_true_eq] at this;exact this.1.2
  have k2 : gcall G none 151 [vl vs, tl ts] 2 = some [vl vs, tl ts] := gcall_on g151 rfl (F145_m hc) rfl;have k3 : gcall G none 440 [tl ts, .int i, .int (i + 1)] 1 = some [tl (holL ts i.toNat)] := gcall_on g440 rfl (F440_tl hv.2 (by omega)) rfl
  have k4 : gev none (.iar .add .i64) [.int i, .int 1] = some (.int (i + 1)) := by rw [q_add, wrap_id' (by omega) (by omega)]
  refine st_some k1 ?_;refine st_some q_bnot ?_;refine st_iff ?_;refine st_some k2 ?_;refine st_some k4 ?_;refine st_some k3 ?_;rfl
end Vs
