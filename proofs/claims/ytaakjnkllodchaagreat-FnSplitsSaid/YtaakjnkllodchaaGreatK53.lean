/-
  Flips and splits of sheets: edges, places and Euler's number.
-/
import Derived.Test.YtaakjnkllodchaaGreatKq4
import Derived.Test.YtaakjnkllodchaaGreatKq5
import Derived.Test.YtaakjnkllodchaaGreatK31
set_option maxHeartbeats 4000000
namespace Vs
open Go Go.Sort
theorem wayN_mem {ts : List (List Int)} {w : E2} : ∀ {m : Nat}, w ∈ wayN ts m ↔ ∃ i, i < m ∧ w ∈ wayT (ts.getD i []) 3
 | 0 => by simp [wayN]
 | m + 1 => by
  rw [wayN, List.mem_append, wayN_mem]
  constructor
  ·rintro (⟨i, h, hw⟩ | hw)
   ·exact ⟨i, by omega, hw⟩
   ·exact ⟨m, by omega, hw⟩
  ·rintro ⟨i, h, hw⟩
   rcases Nat.lt_or_ge i m with h1 | h1
   ·exact .inl ⟨i, h1, hw⟩
   ·rw [show i = m by omega] at hw; exact .inr hw
theorem used_way {n : Int} {ts : List (List Int)} (hT : TriOk n ts) {v : Nat} : usedP ts v = true ↔ ∃ x, ((v : Int), x) ∈ wayN ts ts.length := by
 unfold usedP
 rw [List.any_eq_true]
 constructor
 ·rintro ⟨t, ht, hc⟩
  obtain ⟨i, hi, rfl⟩ := List.getElem_of_mem ht;obtain ⟨x, y, z, e, _⟩ := hT.at hi;rw [getD_lt hi] at e;rw [e] at hc;simp only [List.contains_cons, List.contains_nil, Bool.or_false, Bool.or_eq_true, beq_iff_eq] at hc;have hw : ∀ w, w ∈ wayT [x, y, z] 3 → w ∈ wayN ts ts.length := fun w h => wayN_mem.2 ⟨i, hi, by rw [getD_lt hi, e]; exact h⟩
  rw [wayT3] at hw
  rcases hc with h | h | h
  ·exact ⟨y, hw _ (by rw [h]; simp)⟩
  ·exact ⟨z, hw _ (by rw [h]; simp)⟩
  ·exact ⟨x, hw _ (by rw [h]; simp)⟩
 ·rintro ⟨x, hx⟩
  obtain ⟨i, hi, hw⟩ := wayN_mem.1 hx;obtain ⟨a, b, c, e, _⟩ := hT.at hi;rw [e, wayT3] at hw;rw [getD_lt hi] at e;refine ⟨ts[i], List.getElem_mem hi, ?_⟩;rw [e];simp only [List.mem_cons, Prod.mk.injEq, List.not_mem_nil, or_false] at hw;simp only [List.contains_cons, List.contains_nil, Bool.or_false, Bool.or_eq_true, beq_iff_eq];omega
theorem usN_same {ts ts' : List (List Int)} : ∀ {n : Nat}, (∀ v, v < n → usedP ts' v = usedP ts v) → usN ts' n = usN ts n
 | 0, _ => rfl
 | n + 1, h => by simp only [usN];rw [usN_same (fun v hv => h v (by omega)), h n (by omega)]
theorem edg_at {n : Nat} {ts : List (List Int)} (hT : TriOk n ts) {a b : Int} : uE a b ∈ edgL ts n ↔ (a, b) ∈ wayN ts ts.length ∨ (b, a) ∈ wayN ts ts.length := by
 rw [edgL_mem hT]
 constructor
 ·rintro ⟨w, hw, e⟩
  unfold uW at e
  rcases uE_iff.1 e with ⟨h1, h2⟩ | ⟨h1, h2⟩
  ·left; rw [← h1, ← h2]; exact hw
  ·right; rw [← h1, ← h2]; exact hw
 ·rintro (h | h)
  ·exact ⟨_, h, rfl⟩
  ·exact ⟨_, h, uE_comm _ _⟩
theorem edg_nodup (ts : List (List Int)) (n : Nat) : (edgL ts n).Nodup := sorted_nodup (edgN_sorted ts n n)
theorem edge_count {n n' : Nat} {ts ts' : List (List Int)} (hT : TriOk n ts) (hT' : TriOk n' ts') {R N : List E2} {e0 : E2} {NE : List E2}
  (hc : ∀ w, (wayN ts' ts'.length).count w + R.count w = (wayN ts ts.length).count w + N.count w)
  (hR : ∀ w ∈ R, uW w = e0) (hR0 : ∃ r ∈ R, r ∈ wayN ts ts.length) (hRN : ∀ w ∈ N, w ∉ R)
  (h0 : e0 ∉ edgL ts' n') (hNE : NE.Nodup) (hN : ∀ e, e ∈ NE ↔ ∃ w ∈ N, uW w = e) (hd : ∀ e ∈ NE, e ∉ edgL ts n) :
  (edgL ts' n').length + 1 = (edgL ts n).length + NE.length := by
 have p1 : (e0 :: edgL ts' n').Nodup := List.nodup_cons.2 ⟨h0, edg_nodup _ _⟩
 have p2 : (edgL ts n ++ NE).Nodup := List.nodup_append.2 ⟨edg_nodup _ _, hNE, fun a ha b hb e => hd b hb (e ▸ ha)⟩
 have p3 : (e0 :: edgL ts' n').Perm (edgL ts n ++ NE) := by
  rw [List.perm_ext_iff_of_nodup p1 p2];intro e;rw [List.mem_cons, List.mem_append, edgL_mem hT', edgL_mem hT, hN]
  constructor
  ·rintro (rfl | ⟨w, hw, rfl⟩)
   ·obtain ⟨r, hr, hw⟩ := hR0
    exact .inl ⟨r, hw, hR r hr⟩
   ·have h1 := List.count_pos_iff.2 hw
    have h2 := hc w
    by_cases h3 : w ∈ wayN ts ts.length
    ·exact .inl ⟨w, h3, rfl⟩
    ·rw [List.count_eq_zero.2 h3] at h2
     exact .inr ⟨w, List.count_pos_iff.1 (by omega), rfl⟩
  ·rintro (⟨w, hw, rfl⟩ | ⟨w, hw, rfl⟩)
   ·have h1 := List.count_pos_iff.2 hw
    have h2 := hc w
    by_cases h3 : w ∈ R
    ·exact .inl (hR w h3)
    ·rw [List.count_eq_zero.2 h3] at h2
     exact .inr ⟨w, List.count_pos_iff.1 (by omega), rfl⟩
   ·have h1 := List.count_pos_iff.2 hw
    have h2 := hc w;rw [List.count_eq_zero.2 (hRN w hw)] at h2;exact .inr ⟨w, List.count_pos_iff.1 (by omega), rfl⟩
 have := p3.length_eq
 simp only [List.length_cons, List.length_append] at this
 exact this
theorem used_count {n n' : Nat} {ts ts' : List (List Int)} (hT : TriOk n ts) (hT' : TriOk n' ts') {R N : List E2} {c : Int}
  (hc : ∀ w, (wayN ts' ts'.length).count w + R.count w = (wayN ts ts.length).count w + N.count w)
  (hR : ∀ w ∈ R, ∃ x, ((w.1, x) ∈ wayN ts ts.length ∨ (w.1, x) ∈ N) ∧ (w.1, x) ∉ R)
  (hN : ∀ w ∈ N, w.1 = c ∨ ∃ x, (w.1, x) ∈ wayN ts ts.length) {v : Nat} (hv : (v : Int) ≠ c) : usedP ts' v = usedP ts v := by
 rw [Bool.eq_iff_iff, used_way hT', used_way hT]
 have key : ∀ w, (w ∈ wayN ts ts.length ∨ w ∈ N) → w ∉ R → w ∈ wayN ts' ts'.length := by
  intro w h hw;have h2 := hc w;rw [List.count_eq_zero.2 hw] at h2;refine List.count_pos_iff.1 ?_
  rcases h with h | h
  ·have := List.count_pos_iff.2 h; omega
  ·have := List.count_pos_iff.2 h; omega
 constructor
 ·rintro ⟨x, hx⟩
  have h1 := List.count_pos_iff.2 hx;have h2 := hc (v, x)
  by_cases h3 : ((v : Int), x) ∈ wayN ts ts.length
  ·exact ⟨x, h3⟩
  ·rw [List.count_eq_zero.2 h3] at h2
   rcases hN _ (List.count_pos_iff.1 (show 0 < N.count ((v : Int), x) by omega)) with h | h
   ·exact absurd h hv
   ·exact h
 ·rintro ⟨x, hx⟩
  by_cases h3 : ((v : Int), x) ∈ R
  ·obtain ⟨y, h4, h5⟩ := hR _ h3
   exact ⟨y, key _ h4 h5⟩
  ·exact ⟨x, key _ (.inl hx) h3⟩
theorem tri_ways {n : Nat} {ts : List (List Int)} (hT : TriOk n ts) {j : Nat} (hj : j < ts.length) {a b : Int} (hg : goesP (ts.getD j []) a b = true) :
  (a, b) ∈ wayN ts ts.length ∧ (b, thirdP (ts.getD j []) a b) ∈ wayN ts ts.length ∧ (thirdP (ts.getD j []) a b, a) ∈ wayN ts ts.length ∧ a ≠ b ∧ thirdP (ts.getD j []) a b ≠ a ∧ thirdP (ts.getD j []) a b ≠ b ∧
  (0 ≤ a ∧ a < (n : Int)) ∧ (0 ≤ b ∧ b < (n : Int)) ∧ (0 ≤ thirdP (ts.getD j []) a b ∧ thirdP (ts.getD j []) a b < (n : Int)) ∧ (∀ v, v ∈ ts.getD j [] ↔ v = a ∨ v = b ∨ v = thirdP (ts.getD j []) a b) := by
 obtain ⟨x, y, z, e, h1, h2, h3, r1, r2, r3⟩ := hT.at hj
 have hw : ∀ w, w ∈ wayT [x, y, z] 3 → w ∈ wayN ts ts.length := fun w h => wayN_mem.2 ⟨j, hj, by rw [e]; exact h⟩
 rw [e] at hg ⊢
 have ht := tri_cnt hg
 have hin : ∀ w, w ∈ wayT [a, b, thirdP [x, y, z] a b] 3 → w ∈ wayN ts ts.length := fun w h => hw w (List.count_pos_iff.1 (by rw [ht]; exact List.count_pos_iff.2 h))
 rw [wayT3] at hin
 obtain ⟨t1, t2, t3⟩ := third_in hg h1 h2 h3
 refine ⟨hin _ (by simp), hin _ (by simp), hin _ (by simp), ?_, t1, t2, ?_⟩
 ·simp only [goesP, List.getD_cons_zero, List.getD_cons_succ, beq_iff_eq, Bool.or_eq_true, Bool.and_eq_true] at hg
  omega
 ·have e2 : thirdP [x, y, z] a b = x + y + z - a - b := rfl
  rw [e2] at t1 t2 t3 ⊢;simp only [goesP, List.getD_cons_zero, List.getD_cons_succ, beq_iff_eq, Bool.or_eq_true, Bool.and_eq_true] at hg;refine ⟨by omega, by omega, by omega, fun v => ?_⟩
  simp only [List.mem_cons, List.not_mem_nil, or_false];omega
end Vs
