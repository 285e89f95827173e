/-
  Steps of the small language as equations, for 'simp only'.
-/
import Derived.Test.YtbaijndhllhplaaKq2
set_option maxHeartbeats 4000000
namespace Vs
open Go
section
variable {p : Prim} {xs ds : List D} {G : Told} {f m l : Nat} {α : Type} {a b : Option α} {K : List D → Option (Nat × List D)}
theorem g_tt : gev (some (.bool true, true)) p xs = gev none p xs := (rfl)
theorem g_ff : gev (some (.bool false, false)) p xs = gev none p xs := (rfl)
theorem c_tt : gcall G (some (.bool true, true)) f xs m = gcall G none f xs m := (rfl)
theorem c_ff : gcall G (some (.bool false, false)) f xs m = gcall G none f xs m := (rfl)
theorem p_id {x : D} : gev none .id [x] = some x := (rfl)
theorem p_lss {x y : Int} : gev none (.icm .lss) [.int x, .int y] = some (.bool (decide (x < y))) := (rfl)
theorem p_add {x y : Int} : gev none (.iar .add .i64) [.int x, .int y] = some (.int (IntKind.wrap .i64 (x + y))) := (rfl)
theorem p_sub {x y : Int} : gev none (.iar .sub .i64) [.int x, .int y] = some (.int (IntKind.wrap .i64 (x - y))) := (rfl)
theorem p_pt {x y : D} : gev none .pick [.bool true, x, y] = some x := (rfl)
theorem p_pf {x y : D} : gev none .pick [.bool false, x, y] = some y := (rfl)
theorem p_bnot {c : Bool} : gev none .bnot [.bool c] = some (.bool !c) := (rfl)
theorem p_lst : gev none .mklst xs = some (.lst xs) := (rfl)
theorem p_agg : gev none .mkagg xs = some (.agg xs) := (rfl)
theorem p_v0 {v : V3} : gev none (.proj 0) [vec v] = some (.flt v.x) := (rfl)
theorem p_v1 {v : V3} : gev none (.proj 1) [vec v] = some (.flt v.y) := (rfl)
theorem p_v2 {v : V3} : gev none (.proj 2) [vec v] = some (.flt v.z) := (rfl)
theorem p_fadd {x y : Nat} : gev none (.far .add .f32) [.flt x, .flt y] = some (.flt (fadd .f32 x y)) := (rfl)
theorem p_fmul {x y : Nat} : gev none (.far .mul .f32) [.flt x, .flt y] = some (.flt (fmul .f32 x y)) := (rfl)
end
theorem ev0 : (∀ p xs, gev (some (.bool true, true)) p xs = gev none p xs) ∧ (∀ p xs, gev (some (.bool false, false)) p xs = gev none p xs) ∧ (∀ p xs, gev (some (.bool true, false)) p xs = some .undef) ∧ (∀ p xs, gev (some (.bool false, true)) p xs = some .undef)
  ∧ (∀ G f xs m, gcall G (some (.bool true, true)) f xs m = gcall G none f xs m) ∧ (∀ G f xs m, gcall G (some (.bool false, false)) f xs m = gcall G none f xs m) ∧ (∀ G f xs m, gcall G (some (.bool true, false)) f xs m = some (List.replicate m .undef)) ∧ (∀ G f xs m, gcall G (some (.bool false, true)) f xs m = some (List.replicate m .undef))
  ∧ (∀ (a b : Option (Nat × List D)), tif (.bool true) a b = a) ∧ (∀ (a b : Option (Nat × List D)), tif (.bool false) a b = b)
  ∧ (∀ x, gev none .id [x] = some x) ∧ (∀ x y, gev none .pick [.bool true, x, y] = some x) ∧ (∀ x y, gev none .pick [.bool false, x, y] = some y) ∧ (∀ c, gev none .bnot [.bool c] = some (.bool !c))
  ∧ (∀ x y, gev none (.icm .eql) [.int x, .int y] = some (.bool (x == y))) ∧ (∀ x y, gev none (.icm .neq) [.int x, .int y] = some (.bool (x != y))) ∧ (∀ x y, gev none (.icm .lss) [.int x, .int y] = some (.bool (decide (x < y)))) ∧ (∀ x y, gev none (.icm .gtr) [.int x, .int y] = some (.bool (decide (x > y))))
  ∧ (∀ (a : List D) (f : List D → Option (Nat × List D)), (some a).bind f = f a) ∧ (∀ (a : D) (f : D → Option (Nat × List D)), (some a).bind f = f a) ∧ (∀ (x d : D) xs, (x :: xs).getD 0 d = x) ∧ (∀ (x d : D) xs n, (x :: xs).getD (n + 1) d = xs.getD n d) ∧ (!true) = false ∧ (!false) = true := by
 refine ⟨?_, ?_, ?_, ?_, ?_, ?_, ?_, ?_, ?_, ?_, ?_, ?_, ?_, ?_, ?_, ?_, ?_, ?_, ?_, ?_, ?_, ?_, ?_, ?_⟩ <;> intros <;> rfl
end Vs
