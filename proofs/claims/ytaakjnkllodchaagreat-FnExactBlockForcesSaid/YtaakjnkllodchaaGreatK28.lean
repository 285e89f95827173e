/-
  Pairs of places, flips of edges, what is gained.
-/
import Derived.Test.YtaakjnkllodchaaGreatK27
set_option maxHeartbeats 4000000
namespace Vs
open Go Go.Sort
def okP (n : Nat) (ts : List (List Int)) (p q : Int) : Bool := validP n ts && (inr n p && inr n q && (p != q))
theorem inr_iff {n p : Int} : inr n p = true ↔ 0 ≤ p ∧ p < n := by
 unfold inr
 simp only [Bool.and_eq_true, decide_eq_true_eq]
 omega
theorem okP_ok {n : Nat} {ts : List (List Int)} {p q : Int} (h : okP n ts p q = true) : validP n ts = true ∧ (0 ≤ p ∧ p < n) ∧ (0 ≤ q ∧ q < n) ∧ p ≠ q := by
 unfold okP at h
 simp only [Bool.and_eq_true, inr_iff, bne_iff_ne, ne_eq] at h
 exact ⟨h.1, h.2.1.1, h.2.1.2, h.2.2⟩
theorem has_comm (t : List Int) (p q : Int) : hasB t p q = hasB t q p := by unfold hasB; rw [Bool.and_comm]
theorem thirdB_of {x y z p q : Int} (h1 : x ≠ y) (h2 : y ≠ z) (h3 : x ≠ z) (h : p ≠ q) (hh : hasB [x, y, z] p q = true) (h4 : 0 ≤ x ∧ x < 64) (h5 : 0 ≤ y ∧ y < 64) (h6 : 0 ≤ z ∧ z < 64) : thirdB x y z p q = true := by
 unfold thirdB
 simp only [Bool.and_eq_true, decide_eq_true_eq]
 exact ⟨⟨⟨⟨⟨h1, h2⟩, h3⟩, h⟩, hh⟩, ⟨h4, h5⟩, h6⟩
theorem third_at {n : Nat} {ts : List (List Int)} (hv : validP n ts = true) {G : Told} (g408 : G 408 = F408) {p q j : Int} (hpq : p ≠ q) (h : j ∈ atL ts p q) :
  gcall G none 408 [il (ts.getD j.toNat []), .int p, .int q] 1 = some [.int (thirdP (ts.getD j.toNat []) p q)] ∧ gcall G none 408 [il (ts.getD j.toNat []), .int (min p q), .int (max p q)] 1 = some [.int (thirdP (ts.getD j.toNat []) p q)] ∧
   (0 ≤ thirdP (ts.getD j.toNat []) p q ∧ thirdP (ts.getD j.toNat []) p q < n) := by
 obtain ⟨hn, _⟩ := valid_len hv
 obtain ⟨x, y, z, ht, h1, h2, h3, h4, h5, h6, h7⟩ := atL_tri (triOk_of hv) h
 rw [ht]
 have hb := thirdB_of h1 h2 h3 hpq h7 ⟨h4.1, by omega⟩ ⟨h5.1, by omega⟩ ⟨h6.1, by omega⟩
 have hb2 : thirdB x y z (min p q) (max p q) = true := by
  refine thirdB_of h1 h2 h3 (by omega) ?_ ⟨h4.1, by omega⟩ ⟨h5.1, by omega⟩ ⟨h6.1, by omega⟩
  by_cases hle : p ≤ q
  ·rw [Int.min_eq_left hle, Int.max_eq_right hle]; exact h7
  ·rw [Int.min_eq_right (by omega), Int.max_eq_left (by omega), has_comm]; exact h7
 have e : thirdP [x, y, z] (min p q) (max p q) = thirdP [x, y, z] p q := by unfold thirdP; omega
 refine ⟨gcall_on g408 rfl (F408_m hb) rfl, ?_, ?_⟩
 ·rw [← e]; exact gcall_on g408 rfl (F408_m hb2) rfl
 ·have := thirdB_ok hb
  have e2 : thirdP [x, y, z] p q = x + y + z - p - q := rfl;rw [e2];omega
attribute [local irreducible] IntKind.wrap il tl vl bo mpD kD inr validP longP fsub

end Vs
