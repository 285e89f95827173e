/-
  Steps of the small language as equations, for 'simp only'.
-/
import Derived.Test.YtaakjnkllodchaaGreatKq2
set_option maxHeartbeats 4000000
namespace Vs
open Go
section
variable {p : Prim} {xs ds : List D} {G : Told} {f m l : Nat} {α : Type} {a b : Option α} {K : List D → Option (Nat × List D)}
theorem g_tt : gev (some (.bool true, true)) p xs = gev none p xs := (rfl)
theorem g_ff : gev (some (.bool false, false)) p xs = gev none p xs := (rfl)
theorem g_tf : gev (some (.bool true, false)) p xs = some .undef := (rfl)
theorem g_ft : gev (some (.bool false, true)) p xs = some .undef := (rfl)
theorem c_tt : gcall G (some (.bool true, true)) f xs m = gcall G none f xs m := (rfl)
theorem c_ff : gcall G (some (.bool false, false)) f xs m = gcall G none f xs m := (rfl)
theorem c_tf : gcall G (some (.bool true, false)) f xs m = some (List.replicate m .undef) := (rfl)
theorem c_ft : gcall G (some (.bool false, true)) f xs m = some (List.replicate m .undef) := (rfl)
theorem g_u {w : Bool} : gev (some (.undef, w)) p xs = some .undef := (rfl)
theorem c_u {w : Bool} : gcall G (some (.undef, w)) f xs m = some (List.replicate m .undef) := (rfl)
theorem t_t : tif (.bool true) a b = a := (rfl)
theorem t_f : tif (.bool false) a b = b := (rfl)
theorem j_0 : tjoin m (some (0, ds)) K = if ds.length = m then K ds else none := (rfl)
theorem j_1 : tjoin m (some (1, ds)) K = some (0, ds) := (rfl)
theorem j_3 : tjoin m (some (3, ds)) K = some (2, ds) := (rfl)
theorem p_id {x : D} : gev none .id [x] = some x := (rfl)
theorem p_eql {x y : Int} : gev none (.icm .eql) [.int x, .int y] = some (.bool (x == y)) := (rfl)
theorem p_neq {x y : Int} : gev none (.icm .neq) [.int x, .int y] = some (.bool (x != y)) := (rfl)
theorem p_lss {x y : Int} : gev none (.icm .lss) [.int x, .int y] = some (.bool (decide (x < y))) := (rfl)
theorem p_gtr {x y : Int} : gev none (.icm .gtr) [.int x, .int y] = some (.bool (decide (x > y))) := (rfl)
theorem p_geq {x y : Int} : gev none (.icm .geq) [.int x, .int y] = some (.bool (decide (x ≥ y))) := (rfl)
theorem p_add {x y : Int} : gev none (.iar .add .i64) [.int x, .int y] = some (.int (IntKind.wrap .i64 (x + y))) := (rfl)
theorem p_sub {x y : Int} : gev none (.iar .sub .i64) [.int x, .int y] = some (.int (IntKind.wrap .i64 (x - y))) := (rfl)
theorem p_mul {x y : Int} : gev none (.iar .mul .i64) [.int x, .int y] = some (.int (IntKind.wrap .i64 (x * y))) := (rfl)
theorem p_rem3 {x : Int} : gev none (.idv .rem .i64) [.int x, .int 3] = some (.int (x.tmod 3)) := (rfl)
theorem p_imin {x y : Int} : gev none .imin [.int x, .int y] = some (.int (min x y)) := (rfl)
theorem p_imax {x y : Int} : gev none .imax [.int x, .int y] = some (.int (max x y)) := (rfl)
theorem p_pt {x y : D} : gev none .pick [.bool true, x, y] = some x := (rfl)
theorem p_pf {x y : D} : gev none .pick [.bool false, x, y] = some y := (rfl)
theorem p_bnot {c : Bool} : gev none .bnot [.bool c] = some (.bool !c) := (rfl)
theorem p_beq {c d : Bool} : gev none .beq [.bool c, .bool d] = some (.bool (c == d)) := (rfl)
theorem p_lst : gev none .mklst xs = some (.lst xs) := (rfl)
theorem p_agg : gev none .mkagg xs = some (.agg xs) := (rfl)
theorem p_v0 {v : V3} : gev none (.proj 0) [vec v] = some (.flt v.x) := (rfl)
theorem p_v1 {v : V3} : gev none (.proj 1) [vec v] = some (.flt v.y) := (rfl)
theorem p_v2 {v : V3} : gev none (.proj 2) [vec v] = some (.flt v.z) := (rfl)
theorem p_fadd {x y : Nat} : gev none (.far .add .f32) [.flt x, .flt y] = some (.flt (fadd .f32 x y)) := (rfl)
theorem p_feql {x y : Nat} : gev none (.fcm .eql .f32) [.flt x, .flt y] = some (.bool (feq .f32 x y)) := (rfl)
theorem p_flss {x y : Nat} : gev none (.fcm .lss .f32) [.flt x, .flt y] = some (.bool (flt .f32 x y)) := (rfl)
theorem p_fgtr {x y : Nat} : gev none (.fcm .gtr .f32) [.flt x, .flt y] = some (.bool (fgt .f32 x y)) := (rfl)
theorem p_i0 {x y z : Int} : gev none .idx [il [x, y, z], .int 0] = some (.int x) := (rfl)
theorem p_i1 {x y z : Int} : gev none .idx [il [x, y, z], .int 1] = some (.int y) := (rfl)
theorem p_i2 {x y z : Int} : gev none .idx [il [x, y, z], .int 2] = some (.int z) := (rfl)
theorem p_ii {l : List Int} {i : Nat} (h : i < l.length) : gev none .idx [il l, .int i] = some (.int (l.getD i 0)) := by rw [idx_il h, getD_lt h]
theorem p_ti {l : List (List Int)} {i : Nat} (h : i < l.length) : gev none .idx [tl l, .int i] = some (il (l.getD i [])) := by rw [idx_tl h, getD_lt h]
theorem p_tj {l : List (List Int)} {j : Int} (h0 : 0 ≤ j) (h : j < (l.length : Int)) : gev none .idx [tl l, .int j] = some (il (l.getD j.toNat [])) := by
 have := p_ti (l := l) (i := j.toNat) (by omega)
 rwa [Int.toNat_of_nonneg h0] at this
theorem p_vj {l : List V3} {j : Int} (h0 : 0 ≤ j) (h : j < (l.length : Int)) : gev none .idx [vl l, .int j] = some (vec (l.getD j.toNat ⟨0, 0, 0⟩)) := by
 have := idx_vl (l := l) (i := j.toNat) (by omega)
 rw [Int.toNat_of_nonneg h0] at this
 rw [this, getD_lt]
theorem p_sj {l : List (List Int)} {j : Int} {v : List Int} (h0 : 0 ≤ j) (h : j < (l.length : Int)) : gev none .set [tl l, .int j, il v] = some (tl (l.set j.toNat v)) := by
 have := set_tl (l := l) (i := j.toNat) (v := v) (by omega)
 rwa [Int.toNat_of_nonneg h0] at this
theorem p_il3 {x y z : Int} : gev none .mklst [.int x, .int y, .int z] = some (il [x, y, z]) := (rfl)
theorem p_il2 {x y : Int} : gev none .mklst [.int x, .int y] = some (il [x, y]) := (rfl)
theorem p_il1 {x : Int} : gev none .mklst [.int x] = some (il [x]) := (rfl)
theorem p_il0 : gev none .mklst [] = some (il []) := (rfl)
theorem wrap_id {x : Int} (h0 : -9223372036854775808 ≤ x) (h1 : x < 9223372036854775808) : IntKind.wrap .i64 x = x := by
 simp only [IntKind.wrap, IntKind.bits, IntKind.signed]
 have e : (2 : Int) ^ 64 = 18446744073709551616 := by decide
 simp only [e, Bool.true_and]
 split
 ·rename_i h
  simp at h;omega
 ·rename_i h
  simp at h;omega
end
theorem ev0 : (∀ p xs, gev (some (.bool true, true)) p xs = gev none p xs) ∧ (∀ p xs, gev (some (.bool false, false)) p xs = gev none p xs) ∧ (∀ p xs, gev (some (.bool true, false)) p xs = some .undef) ∧ (∀ p xs, gev (some (.bool false, true)) p xs = some .undef)
  ∧ (∀ G f xs m, gcall G (some (.bool true, true)) f xs m = gcall G none f xs m) ∧ (∀ G f xs m, gcall G (some (.bool false, false)) f xs m = gcall G none f xs m) ∧ (∀ G f xs m, gcall G (some (.bool true, false)) f xs m = some (List.replicate m .undef)) ∧ (∀ G f xs m, gcall G (some (.bool false, true)) f xs m = some (List.replicate m .undef))
  ∧ (∀ (a b : Option (Nat × List D)), tif (.bool true) a b = a) ∧ (∀ (a b : Option (Nat × List D)), tif (.bool false) a b = b)
  ∧ (∀ x, gev none .id [x] = some x) ∧ (∀ x y, gev none .pick [.bool true, x, y] = some x) ∧ (∀ x y, gev none .pick [.bool false, x, y] = some y) ∧ (∀ c, gev none .bnot [.bool c] = some (.bool !c))
  ∧ (∀ x y, gev none (.icm .eql) [.int x, .int y] = some (.bool (x == y))) ∧ (∀ x y, gev none (.icm .neq) [.int x, .int y] = some (.bool (x != y))) ∧ (∀ x y, gev none (.icm .lss) [.int x, .int y] = some (.bool (decide (x < y)))) ∧ (∀ x y, gev none (.icm .gtr) [.int x, .int y] = some (.bool (decide (x > y))))
  ∧ (∀ (a : List D) (f : List D → Option (Nat × List D)), (some a).bind f = f a) ∧ (∀ (a : D) (f : D → Option (Nat × List D)), (some a).bind f = f a) ∧ (∀ (x d : D) xs, (x :: xs).getD 0 d = x) ∧ (∀ (x d : D) xs n, (x :: xs).getD (n + 1) d = xs.getD n d) ∧ (!true) = false ∧ (!false) = true := by
 refine ⟨?_, ?_, ?_, ?_, ?_, ?_, ?_, ?_, ?_, ?_, ?_, ?_, ?_, ?_, ?_, ?_, ?_, ?_, ?_, ?_, ?_, ?_, ?_, ?_⟩ <;> intros <;> rfl
end Vs
