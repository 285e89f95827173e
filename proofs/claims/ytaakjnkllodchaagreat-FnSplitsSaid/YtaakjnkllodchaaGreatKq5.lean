/-
  A flip keeps the sheet.
-/
import Derived.Test.YtaakjnkllodchaaGreatK29
set_option maxHeartbeats 4000000
namespace Vs
open Go Go.Sort
theorem cnt_set {ts : List (List Int)} {i : Nat} {t : List Int} (hi : i < ts.length) (w : E2) : ∀ n, n ≤ ts.length → (wayN (ts.set i t) n).count w + (if i < n then (wayT (ts.getD i []) 3).count w else 0) = (wayN ts n).count w + (if i < n then (wayT t 3).count w else 0)
 | 0, _ => by simp [wayN]
 | n + 1, hn => by
  have ih := cnt_set (t := t) hi w n (by omega)
  simp only [wayN, List.count_append]
  rcases Nat.lt_trichotomy i n with h | h | h
  ·have e : (ts.set i t).getD n [] = ts.getD n [] := by rw [List.getD_eq_getElem?_getD, List.getD_eq_getElem?_getD, List.getElem?_set_ne (by omega)]
   rw [e, if_pos (by omega), if_pos (by omega)]
   rw [if_pos h, if_pos h] at ih;omega
  ·subst h
   have e : (ts.set i t).getD i [] = t := by rw [List.getD_eq_getElem?_getD, List.getElem?_set_self hi]; rfl
   rw [e, if_pos (by omega), if_pos (by omega)]
   rw [if_neg (by omega), if_neg (by omega)] at ih
   omega
  ·have e : (ts.set i t).getD n [] = ts.getD n [] := by rw [List.getD_eq_getElem?_getD, List.getD_eq_getElem?_getD, List.getElem?_set_ne (by omega)]
   rw [e, if_neg (by omega), if_neg (by omega)]
   rw [if_neg (by omega), if_neg (by omega)] at ih
   omega
theorem tri_cnt {x y z p q : Int} (h : goesP [x, y, z] p q = true) (w : E2) : (wayT [x, y, z] 3).count w = (wayT [p, q, thirdP [x, y, z] p q] 3).count w := by
 have e : thirdP [x, y, z] p q = x + y + z - p - q := rfl
 rw [e]
 simp only [goesP, List.getD_cons_zero, List.getD_cons_succ, beq_iff_eq, Bool.or_eq_true, Bool.and_eq_true] at h
 rw [wayT3, wayT3]
 rcases h with ⟨rfl, rfl⟩ | ⟨rfl, rfl⟩ | ⟨rfl, rfl⟩
 ·rw [show x + y + z - x - y = z by omega]
 ·rw [show x + y + z - y - z = x by omega]
  simp only [List.count_cons, List.count_nil];omega
 ·rw [show x + y + z - z - x = y by omega]
  simp only [List.count_cons, List.count_nil];omega
theorem third_in {x y z p q : Int} (h : goesP [x, y, z] p q = true) (h1 : x ≠ y) (h2 : y ≠ z) (h3 : x ≠ z) : thirdP [x, y, z] p q ≠ p ∧ thirdP [x, y, z] p q ≠ q ∧ (thirdP [x, y, z] p q = x ∨ thirdP [x, y, z] p q = y ∨ thirdP [x, y, z] p q = z) := by
 have e : thirdP [x, y, z] p q = x + y + z - p - q := rfl
 rw [e]
 simp only [goesP, List.getD_cons_zero, List.getD_cons_succ, beq_iff_eq, Bool.or_eq_true, Bool.and_eq_true] at h
 omega
end Vs
