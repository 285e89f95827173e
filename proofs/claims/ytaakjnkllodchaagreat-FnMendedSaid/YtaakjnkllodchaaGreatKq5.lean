/-
  A flip keeps the sheet.
-/
import Derived.Test.YtaakjnkllodchaaGreatK29
set_option maxHeartbeats 4000000
namespace Vs
open Go Go.Sort
theorem cnt_set {ts : List (List Int)} {i : Nat} {t : List Int} (hi : i < ts.length) (w : E2) : ∀ n, n ≤ ts.length → (wayN (ts.set i t) n).count w + (if i < n then (wayT (ts.getD i []) 3).count w else 0) = (wayN ts n).count w + (if i < n then (wayT t 3).count w else 0)
 | 0, _ => by simp [wayN]
 | n + 1, hn => by
  have ih := cnt_set (t := t) hi w n (by omega)
  simp only [wayN, List.count_append]
  rcases Nat.lt_trichotomy i n with h | h | h
  ·have e : (ts.set i t).getD n [] = ts.getD n [] := by rw [List.getD_eq_getElem?_getD, List.getD_eq_getElem?_getD, List.getElem?_set_ne (by omega)]
   rw [e, if_pos (by omega), if_pos (by omega)]
   rw [if_pos h, if_pos h] at ih;omega
  ·subst h
   have e : (ts.set i t).getD i [] = t := by rw [List.getD_eq_getElem?_getD, List.getElem?_set_self hi]; rfl
   rw [e, if_pos (by omega), if_pos (by omega)]
   rw [if_neg (by omega), if_neg (by omega)] at ih
   omega
  ·have e : (ts.set i t).getD n [] = ts.getD n [] := by rw [List.getD_eq_getElem?_getD, List.getD_eq_getElem?_getD, List.getElem?_set_ne (by omega)]
   rw [e, if_neg (by omega), if_neg (by omega)]
   rw [if_neg (by omega), if_neg (by omega)] at ih
   omega
theorem tri_cnt {x y z p q : Int} (h : goesP [x, y, z] p q = true) (w : E2) : (wayT [x, y, z] 3).count w = (wayT [p, q, thirdP [x, y, z] p q] 3).count w := by
 have e : thirdP [x, y, z] p q = x + y + z - p - q := rfl
 rw [e]
 simp only [goesP, List.getD_cons_zero, List.getD_cons_succ, beq_iff_eq, Bool.or_eq_true, Bool.and_eq_true] at h
 rw [wayT3, wayT3]
 rcases h with ⟨rfl, rfl⟩ | ⟨rfl, rfl⟩ | ⟨rfl, rfl⟩
 ·rw [show x + y + z - x - y = z by omega]
 ·rw [show x + y + z - y - z = x by omega]
  simp only [List.count_cons, List.count_nil];omega
 ·rw [show x + y + z - z - x = y by omega]
  simp only [List.count_cons, List.count_nil];omega
theorem third_in {x y z p q : Int} (h : goesP [x, y, z] p q = true) (h1 : x ≠ y) (h2 : y ≠ z) (h3 : x ≠ z) : thirdP [x, y, z] p q ≠ p ∧ thirdP [x, y, z] p q ≠ q ∧ (thirdP [x, y, z] p q = x ∨ thirdP [x, y, z] p q = y ∨ thirdP [x, y, z] p q = z) := by
 have e : thirdP [x, y, z] p q = x + y + z - p - q := rfl
 rw [e]
 simp only [goesP, List.getD_cons_zero, List.getD_cons_succ, beq_iff_eq, Bool.or_eq_true, Bool.and_eq_true] at h
 omega
theorem flip_two {n : Nat} {ts : List (List Int)} {p q : Int} (hv : validP n ts = true) (hs : sheetP ts = true) (hpq : p ≠ q) (h : flipB ts p q = true) :
  ∃ i j : Nat, oneI ts p q = (i : Int) ∧ twoI ts p q = (j : Int) ∧ i < ts.length ∧ j < ts.length ∧ i ≠ j ∧ goesP (ts.getD i []) p q = true ∧ goesP (ts.getD j []) q p = true := by
 have hT := triOk_of hv
 obtain ⟨h2, _⟩ := flipB_two h
 obtain ⟨u, v, huv⟩ := len2 h2
 have hu : u ∈ atL ts p q := by rw [huv]; simp
 have hw : v ∈ atL ts p q := by rw [huv]; simp
 obtain ⟨lu0, lu1⟩ := atN_lt ts p q _ u hu
 obtain ⟨lv0, lv1⟩ := atN_lt ts p q _ v hw
 obtain ⟨x, y, z, ht, h1, h2', h3, _, _, _, hh⟩ := atL_tri hT hu
 obtain ⟨x', y', z', ht', h1', h2'', h3', _, _, _, hh'⟩ := atL_tri hT hw
 unfold sheetP at hs
 rw [decide_eq_true_eq, nodup_count] at hs
 have c1 := hs (p, q)
 have c2 := hs (q, p)
 rw [count_way hT p q _ (Nat.le_refl _), show atN ts p q ts.length = [u, v] from huv] at c1
 rw [count_rev hT hpq, huv] at c2
 simp only [List.countP_cons, List.countP_nil] at c1 c2
 have gu : goesA ts q p u = !goesA ts p q u := by unfold goesA;rw [ht];exact goes_rev h1 h2' h3 hpq hh
 have gv : goesA ts q p v = !goesA ts p q v := by unfold goesA;rw [ht'];exact goes_rev h1' h2'' h3' hpq hh'
 unfold oneI twoI
 rw [huv]
 simp only [List.getD_cons_zero, List.getD_cons_succ]
 cases eu : goesA ts p q u with
 | true =>
  cases ev : goesA ts p q v with
  | true => rw [eu, ev] at c1; simp at c1
  | false =>
   rw [ev] at gv;refine ⟨u.toNat, v.toNat, by simp; omega, by simp; omega, by omega, by omega, fun he => ?_, eu, gv⟩
   rw [show u = v by omega, ev] at eu
   cases eu
 | false =>
  cases ev : goesA ts p q v with
  | false => rw [eu, ev] at c2; simp at c2
  | true =>
   rw [eu] at gu;refine ⟨v.toNat, u.toNat, by simp; omega, by simp; omega, by omega, by omega, fun he => ?_, ev, gu⟩
   rw [show u = v by omega, ev] at eu
   cases eu
theorem flip_cnt {n : Nat} {ts : List (List Int)} {p q : Int} (hv : validP n ts = true) (hs : sheetP ts = true) (hpq : p ≠ q) (h : flipB ts p q = true) (w : E2) :
  (wayN (flipT ts p q) ts.length).count w + [(p, q)].count w + [(q, p)].count w = (wayN ts ts.length).count w + [(flC ts p q, flD ts p q)].count w + [(flD ts p q, flC ts p q)].count w := by
 have hT := triOk_of hv
 obtain ⟨i, j, ei, ej, hi, hj, hij, gi, gj⟩ := flip_two hv hs hpq h
 have k1 := cnt_set (t := [p, flD ts p q, flC ts p q]) hi w ts.length (Nat.le_refl _)
 have k2 := cnt_set (ts := ts.set i [p, flD ts p q, flC ts p q]) (i := j) (t := [flD ts p q, q, flC ts p q]) (by simpa using hj) w ts.length (by simp)
 have e : (ts.set i [p, flD ts p q, flC ts p q]).getD j [] = ts.getD j [] := by rw [List.getD_eq_getElem?_getD, List.getD_eq_getElem?_getD, List.getElem?_set_ne (by omega)]
 rw [e] at k2
 rw [if_pos hi, if_pos hi] at k1
 rw [if_pos hj, if_pos hj] at k2
 obtain ⟨x, y, z, ht, h1, h2, h3, _⟩ := hT.at hi
 obtain ⟨x', y', z', ht', h1', h2', h3', _⟩ := hT.at hj
 rw [ht] at gi
 rw [ht'] at gj
 have t1 := tri_cnt gi w
 have t2 := tri_cnt gj w
 have ec : flC ts p q = thirdP [x, y, z] p q := by unfold flC; rw [ei, Int.toNat_natCast, ht]
 have ed : flD ts p q = thirdP [x', y', z'] q p := by unfold flD; rw [ej, Int.toNat_natCast, ht'];unfold thirdP; omega
 rw [← ec, ← ht] at t1
 rw [← ed, ← ht'] at t2
 rw [t1] at k1
 rw [t2] at k2
 have ef : flipT ts p q = (ts.set i [p, flD ts p q, flC ts p q]).set j [flD ts p q, q, flC ts p q] := by unfold flipT; rw [ei, ej, Int.toNat_natCast, Int.toNat_natCast]
 rw [ef]
 rw [wayT3, wayT3] at k1 k2
 simp only [List.count_cons, List.count_nil] at k1 k2 ⊢
 omega
theorem flip_tri {n : Nat} {ts : List (List Int)} {p q : Int} (hv : validP n ts = true) (hs : sheetP ts = true) (hpq : p ≠ q) (h : flipB ts p q = true) : TriOk n (flipT ts p q) := by
 have hT := triOk_of hv
 obtain ⟨i, j, ei, ej, hi, hj, hij, gi, gj⟩ := flip_two hv hs hpq h
 obtain ⟨_, hq⟩ := flipB_two h
 unfold flipQ at hq
 simp only [Bool.and_eq_true, bne_iff_ne, ne_eq] at hq
 obtain ⟨x, y, z, ht, h1, h2, h3, r1, r2, r3⟩ := hT.at hi
 obtain ⟨x', y', z', ht', h1', h2', h3', r1', r2', r3'⟩ := hT.at hj
 rw [ht] at gi
 rw [ht'] at gj
 have ec : flC ts p q = thirdP [x, y, z] p q := by unfold flC; rw [ei, Int.toNat_natCast, ht]
 have ed : flD ts p q = thirdP [x', y', z'] q p := by unfold flD; rw [ej, Int.toNat_natCast, ht'];unfold thirdP; omega
 obtain ⟨a1, a2, a3⟩ := third_in gi h1 h2 h3
 obtain ⟨b1, b2, b3⟩ := third_in gj h1' h2' h3'
 rw [← ec] at a1 a2 a3
 rw [← ed] at b1 b2 b3
 have rp : 0 ≤ p ∧ p < (n : Int) ∧ 0 ≤ q ∧ q < (n : Int) := by simp only [goesP, List.getD_cons_zero, List.getD_cons_succ, beq_iff_eq, Bool.or_eq_true, Bool.and_eq_true] at gi;omega
 have rc : 0 ≤ flC ts p q ∧ flC ts p q < (n : Int) := by omega
 have rd : 0 ≤ flD ts p q ∧ flD ts p q < (n : Int) := by omega
 clear ec ed a3 b3 r1 r2 r3 r1' r2' r3' h1 h2 h3 h1' h2' h3' ei ej gi gj ht ht'
 intro t hm
 unfold flipT at hm
 rcases List.mem_or_eq_of_mem_set hm with hm | rfl
 ·rcases List.mem_or_eq_of_mem_set hm with hm | rfl
  ·exact hT t hm
  ·exact ⟨_, _, _, rfl, Ne.symm b2, Ne.symm hq.1, Ne.symm a1, ⟨rp.1, rp.2.1⟩, rd, rc⟩
 ·exact ⟨_, _, _, rfl, b1, Ne.symm a2, Ne.symm hq.1, rd, rp.2.2, rc⟩
theorem flip_sheet {n : Nat} {ts : List (List Int)} {p q : Int} (hv : validP n ts = true) (hs : sheetP ts = true) (hpq : p ≠ q) (h : flipB ts p q = true) : sheetP (flipT ts p q) = true := by
 have hT := triOk_of hv
 have hc := flip_cnt hv hs hpq h
 obtain ⟨_, hq⟩ := flipB_two h
 unfold flipQ at hq
 simp only [Bool.and_eq_true, bne_iff_ne, ne_eq, decide_eq_true_eq] at hq
 have z1 : (wayN ts ts.length).count (flC ts p q, flD ts p q) = 0 := by
  rw [count_way hT _ _ _ (Nat.le_refl _), show atN ts (flC ts p q) (flD ts p q) ts.length = [] from List.length_eq_zero_iff.1 hq.2]
  rfl
 have z2 : (wayN ts ts.length).count (flD ts p q, flC ts p q) = 0 := by
  rw [count_rev hT hq.1, show atL ts (flC ts p q) (flD ts p q) = [] from List.length_eq_zero_iff.1 hq.2]
  rfl
 unfold sheetP at hs ⊢
 rw [decide_eq_true_eq, nodup_count] at hs ⊢
 intro w
 rw [flipT_len]
 have h1 := hs w
 have h2 := hc w
 have hne : (flC ts p q, flD ts p q) ≠ (flD ts p q, flC ts p q) := fun he => hq.1 (Prod.mk.inj he).1
 by_cases e1 : w = (flC ts p q, flD ts p q)
 ·subst e1
  rw [z1] at h2;have : [(flD ts p q, flC ts p q)].count (flC ts p q, flD ts p q) = 0 := List.count_eq_zero.2 (by simpa using hne)
  have k := List.count_le_length (a := (flC ts p q, flD ts p q)) (l := [(flC ts p q, flD ts p q)]);simp only [List.length_cons, List.length_nil] at k;omega
 ·by_cases e2 : w = (flD ts p q, flC ts p q)
  ·subst e2
   rw [z2] at h2;have : [(flC ts p q, flD ts p q)].count (flD ts p q, flC ts p q) = 0 := List.count_eq_zero.2 (by simpa using hne.symm)
   have k := List.count_le_length (a := (flD ts p q, flC ts p q)) (l := [(flD ts p q, flC ts p q)]);simp only [List.length_cons, List.length_nil] at k;omega
  ·have a : [(flC ts p q, flD ts p q)].count w = 0 := List.count_eq_zero.2 (by simpa using e1)
   have b : [(flD ts p q, flC ts p q)].count w = 0 := List.count_eq_zero.2 (by simpa using e2)
   omega
theorem flip_valid {n : Nat} {ts : List (List Int)} {p q : Int} (hv : validP n ts = true) (hs : sheetP ts = true) (hpq : p ≠ q) (h : flipB ts p q = true) : validP n (flipT ts p q) = true := by
 have := flip_tri hv hs hpq h
 unfold validP at hv ⊢
 simp only [Bool.and_eq_true, decide_eq_true_eq] at hv ⊢
 refine ⟨⟨hv.1.1, by rw [flipT_len]; exact hv.1.2⟩, ?_⟩
 rw [List.all_eq_true]
 intro t ht
 obtain ⟨x, y, z, rfl, h1, h2, h3, r1, r2, r3⟩ := this t ht
 unfold triP inr
 simp only [List.all_cons, List.all_nil, Bool.and_eq_true, Bool.not_eq_true', beq_eq_false_iff_ne, decide_eq_true_eq, Bool.and_true]
 omega
end Vs
