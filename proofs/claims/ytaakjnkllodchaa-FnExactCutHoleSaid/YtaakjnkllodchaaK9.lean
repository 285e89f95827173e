/-
  How thick triangles are: ThicknessOf, ThinTriangles.
-/
import Derived.Test.YtaakjnkllodchaaK8
set_option maxHeartbeats 4000000
namespace Vs
open Go
noncomputable def F156 : List D → Option (List D)
 | [a, b, .int i] => (dV a).bind fun vs => (dT b).bind fun ts => if szM vs ts ≤ 1048576 then some [.bool (validP vs.length ts && inr ts.length i)] else none
 | _ => none
theorem F156_m {vs : List V3} {ts : List (List Int)} {i : Int} (h : szM vs ts ≤ 1048576) : F156 [vl vs, tl ts, .int i] = some [.bool (validP vs.length ts && inr ts.length i)] := by
 simp only [F156, dV_vl, dT_tl, Option.bind_some]
 rw [if_pos h]
def T156 : T :=
(cc 150 [0, 1] 1 <|
oT 3 .id [2] <|
oT 3 .id [1] <|
oT 3 .len [5] <|
oT 3 (.iar .sub .i64) [6, kI 1] <|
cT 3 19 [4, kI 0, 7] 1 <|
oo .pick [3, 8, kN] <|
.out 0 [9])
def S156 (G : Told) (_fuel : Nat) (x0 x1 x2 : D) : Option (Nat × List D) :=
 (gcall G none 150 [x0, x1] 1).bind fun e3 =>
 (gev (some ((e3.getD 0 .undef), true)) .id [x2]).bind fun x4 =>
 (gev (some ((e3.getD 0 .undef), true)) .id [x1]).bind fun x5 =>
 (gev (some ((e3.getD 0 .undef), true)) .len [x5]).bind fun x6 =>
 (gev (some ((e3.getD 0 .undef), true)) (.iar .sub .i64) [x6, .int 1]).bind fun x7 =>
 (gcall G (some ((e3.getD 0 .undef), true)) 19 [x4, .int 0, x7] 1).bind fun e8 =>
 (gev none .pick [e3.getD 0 .undef, e8.getD 0 .undef, .bool false]).bind fun x9 =>
 some (0, [x9])
theorem eq156 {G fuel} (x0 x1 x2) : run G fuel T156 [x0, x1, x2] = S156 G fuel x0 x1 x2 := by rw [run_eq]; kernel_rfl
attribute [local irreducible] tif tjoin IntKind.wrap feq fadd fmul fsub fdiv fgt i2f sameP wide eqV vl il tl totL szM szP marksV marksT inr triP validP flt

theorem run156 {G : Told} (g19 : G 19 = F19) (g150 : G 150 = F150) : Runs G F156 T156 := by
 intro ds rs h
 unfold F156 at h
 split at h
 case h_2 => cases h
 rename_i a b k
 obtain ⟨vs, ha, h⟩ := Option.bind_eq_some_iff.1 h
 obtain ⟨ts, hb, h⟩ := Option.bind_eq_some_iff.1 h
 rw [dV_inv ha, dT_inv hb]
 split at h
 case isFalse => cases h
 rename_i hc
 simp only [Option.some.injEq] at h
 subst h
 refine ⟨0, ?_⟩
 rw [eq156]
 unfold S156
 have hz : szM vs ts = vs.length + ts.length + totL ts := by unfold szM; rfl
 have hv := F150_m hc
 have hm := len_tl (l := ts)
 have hs := sub1 (n := ts.length) (by omega) (by omega)
 have hf := F19_in k ts.length
 cases hval : validP vs.length ts
 ·rw [hval] at hv
  rw [Bool.false_and]
  repeat' first
   | with_reducible refine st_ift ?_
   | with_reducible refine st_iff ?_
   | ((with_reducible apply st_call); exact g150; exact rfl; exact hv; exact rfl)
   | ((with_reducible apply st_callt); assumption; exact rfl; exact rfl; assumption)
   | ((with_reducible apply st_callf); assumption; exact rfl; exact rfl; assumption)
   | ((with_reducible apply st_call); assumption; exact rfl; exact rfl; exact rfl)
   | ((with_reducible apply st_wide); exact rfl; exact rfl)
   | ((with_reducible apply st_skip); exact rfl)
   | ((with_reducible apply st_t); exact rfl; exact rfl)
   | ((with_reducible apply st_f); exact rfl; exact rfl)
   | ((with_reducible apply st_t); exact rfl; assumption)
   | ((with_reducible apply st_f); exact rfl; assumption)
   | ((with_reducible apply st_some); exact rfl)
   | exact rfl
 ·rw [hval] at hv
  rw [Bool.true_and];generalize inr ts.length k = w at hf
  repeat' first
   | with_reducible refine st_ift ?_
   | with_reducible refine st_iff ?_
   | ((with_reducible apply st_call); exact g150; exact rfl; exact hv; exact rfl)
   | ((with_reducible apply st_call); exact g19; exact rfl; exact hf; exact rfl)
   | ((with_reducible apply st_some); exact hm)
   | ((with_reducible apply st_some); exact hs)
   | ((with_reducible apply st_callt); assumption; exact rfl; exact rfl; assumption)
   | ((with_reducible apply st_callf); assumption; exact rfl; exact rfl; assumption)
   | ((with_reducible apply st_call); assumption; exact rfl; exact rfl; exact rfl)
   | ((with_reducible apply st_wide); exact rfl; exact rfl)
   | ((with_reducible apply st_skip); exact rfl)
   | ((with_reducible apply st_t); exact rfl; exact rfl)
   | ((with_reducible apply st_f); exact rfl; exact rfl)
   | ((with_reducible apply st_t); exact rfl; assumption)
   | ((with_reducible apply st_f); exact rfl; assumption)
   | ((with_reducible apply st_some); exact rfl)
   | exact rfl
end Vs
