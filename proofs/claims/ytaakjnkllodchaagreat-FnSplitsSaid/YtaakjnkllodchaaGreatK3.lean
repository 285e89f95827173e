/-
  Lists of vectors: what laws do with them (length, copy, compare, mark, look at the marks).
-/
import Derived.Test.YtaakjnkllodchaaGreatD
import Derived.Test.YtaakjnkllodchaaGreatE
set_option maxHeartbeats 4000000
namespace Vs
open Go
def vec (v : V3) : D := .agg [.flt v.x, .flt v.y, .flt v.z]
def unvec : D → V3
 | .agg [.flt x, .flt y, .flt z] => ⟨x, y, z⟩
 | _ => ⟨0, 0, 0⟩
def vl (l : List V3) : D := .lst (l.map vec)
theorem unvl (l : List V3) : (l.map vec).map unvec = l := by
 rw [List.map_map]
 exact List.map_id'' (fun _ => rfl) l
theorem idx_vl {l : List V3} {i : Nat} (h : i < l.length) : gev none .idx [vl l, .int i] = some (vec l[i]) := by
 have h2 : (i : Int) < ((l.map vec).length : Int) := by simp; omega
 simp only [gev, gok, if_true, Prim.ev, vl]
 rw [if_pos ⟨by omega, h2⟩]
 simp [h]
theorem set_vl {l : List V3} {i : Nat} {v : V3} (h : i < l.length) : gev none .set [vl l, .int i, vec v] = some (vl (l.set i v)) := by
 have h2 : (i : Int) < ((l.map vec).length : Int) := by simp; omega
 simp only [gev, gok, if_true, Prim.ev, vl]
 rw [if_pos ⟨by omega, h2⟩]
 simp [List.map_set]
theorem len_vl {l : List V3} : gev none .len [vl l] = some (.int (l.length : Int)) := by simp [gev, gok, Prim.ev, vl]
theorem app_vl {l : List V3} {v : V3} (h : l.length < 1048576) : gev none .app [vl l, .lst [vec v]] = some (vl (l ++ [v])) := by
 simp only [gev, gok, if_true, Prim.ev, vl]
 rw [if_pos (by simp; omega)]
 simp
theorem add1 {i : Int} (h0 : 0 ≤ i) (h : i < 4611686018427387904) : gev none (.iar .add .i64) [.int i, .int 1] = some (.int (i + 1)) := by
 have e : gev none (.iar .add .i64) [.int i, .int 1] = some (.int (IntKind.wrap .i64 (i + 1))) := rfl
 rw [e, wrapU h0 h]
theorem add1n {i : Nat} (h : i < 1048576) : gev none (.iar .add .i64) [.int i, .int 1] = some (.int ((i + 1 : Nat) : Int)) := add1 (by omega) (by omega)
theorem iter_upto {body : List D → Option (Nat × List D)} (s : Nat → List D) {n l : Nat} {ds : List D} (hs : ∀ i, i < n → body (s i) = some (0, s (i + 1))) (he : body (s n) = some (l + 1, ds)) :
  iter body (n + 1) (s 0) = some (l, ds) := by
 have key : ∀ (k i : Nat), i + k = n → iter body (k + 1) (s i) = some (l, ds) := by
  intro k
  induction k with
  | zero =>
   intro i hi;have : i = n := by omega
   subst this;exact iter_end he rfl
  | succ k ih =>
   intro i hi;exact iter_go (hs i (by omega)) (ih (i + 1) (by omega))
 exact key n 0 (by omega)
theorem take_step {α : Type} {l : List α} {i : Nat} (h : i < l.length) : l.take (i + 1) = l.take i ++ [l[i]] := by
 rw [List.take_add_one, List.getElem?_eq_getElem h]
 rfl
attribute [local irreducible] tif tjoin IntKind.wrap feq fadd fmul fsub fdiv fgt i2f wide vl

theorem wrap_sub {m n : Int} (h0 : 0 ≤ m) (h1 : m ≤ 1048576) (h2 : 0 ≤ n) (h3 : n < 9223372036854775808) : IntKind.wrap .i64 (m - n) = m - n := by
 unfold IntKind.wrap
 simp only [IntKind.bits, IntKind.signed]
 by_cases hn : 0 ≤ m - n
 ·have e : (m - n) % 2 ^ 64 = m - n := Int.emod_eq_of_lt hn (by omega)
  simp only [e];split
  ·rename_i h
   simp at h;omega
  ·rfl
 ·have e : (m - n) % 2 ^ 64 = m - n + 2 ^ 64 := by rw [← Int.add_emod_right, Int.emod_eq_of_lt (by omega) (by omega)]
  simp only [e];split
  ·omega
  ·rename_i h
   simp at h;omega
end Vs
