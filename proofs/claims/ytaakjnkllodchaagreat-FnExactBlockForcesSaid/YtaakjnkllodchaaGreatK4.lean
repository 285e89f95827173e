/-
  WithoutPart: what the functions compute, and the law.
-/
import Derived.Test.YtaakjnkllodchaaGreatK3
set_option maxHeartbeats 4000000
namespace Vs
open Go
def lessV (v w : V3) : V3 := ⟨fsub .f32 v.x w.x, fsub .f32 v.y w.y, fsub .f32 v.z w.z⟩
def gainP (b c : Nat) : Nat := if fgt .f32 c 0 then fdiv .f32 b c else 0
def F126 : List D → Option (List D) | [.flt x, .flt y] => some [.flt (gainP x y)] | _ => none
def T126 : T :=
(oo (.fcm .gtr .f32) [1, kF 0] <|
.ite 2
 (oo (.far .quo .f32) [0, 1] <|
 .out 0 [3])
 (.out 0 [kF 0]))
def S126 (_G : Told) (_fuel : Nat) (x0 x1 : D) : Option (Nat × List D) :=
 (gev none (.fcm .gtr .f32) [x1, .flt 0]).bind fun x2 =>
 tif x2 (
  (gev none (.far .quo .f32) [x0, x1]).bind fun x3 =>
  some (0, [x3])) (
  some (0, [.flt 0]))
theorem eq126 {G fuel} (x0 x1) : run G fuel T126 [x0, x1] = S126 G fuel x0 x1 := by rw [run_eq]; kernel_rfl
attribute [local irreducible] tif tjoin IntKind.wrap feq fadd fmul fsub fdiv fgt i2f sameP wide eqV vl innerP gainP

theorem run126 {G : Told} : Runs G F126 T126 := by
 intro ds rs h
 unfold F126 at h
 split at h <;> simp only [Option.some.injEq, reduceCtorEq] at h
 subst h
 rename_i x y
 refine ⟨0, ?_⟩
 rw [eq126]
 unfold S126 gainP
 cases hg : fgt .f32 y 0
 ·repeat' first
   | (apply st_callt; assumption; exact rfl; exact rfl; assumption)
   | (apply st_callf; assumption; exact rfl; exact rfl; assumption)
   | (apply st_call; assumption; exact rfl; exact rfl; exact rfl)
   | (apply st_wide; exact rfl; exact rfl)
   | (apply st_skip; exact rfl)
   | (apply st_t; exact rfl; exact rfl)
   | (apply st_f; exact rfl; exact rfl)
   | (apply st_t; exact rfl; assumption)
   | (apply st_f; exact rfl; assumption)
   | (apply st_some; exact rfl)
   | refine st_ift ?_
   | refine st_iff ?_
   | exact rfl
 ·repeat' first
   | (apply st_callt; assumption; exact rfl; exact rfl; assumption)
   | (apply st_callf; assumption; exact rfl; exact rfl; assumption)
   | (apply st_call; assumption; exact rfl; exact rfl; exact rfl)
   | (apply st_wide; exact rfl; exact rfl)
   | (apply st_skip; exact rfl)
   | (apply st_t; exact rfl; exact rfl)
   | (apply st_f; exact rfl; exact rfl)
   | (apply st_t; exact rfl; assumption)
   | (apply st_f; exact rfl; assumption)
   | (apply st_some; exact rfl)
   | refine st_ift ?_
   | refine st_iff ?_
   | exact rfl
end Vs
