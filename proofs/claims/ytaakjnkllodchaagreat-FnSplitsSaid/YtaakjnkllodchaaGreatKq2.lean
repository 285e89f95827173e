/-
  Sheets: no way is gone twice; the two tests agree.
-/
import Derived.Test.YtaakjnkllodchaaGreatKq1
set_option maxHeartbeats 4000000
namespace Vs
open Go Go.Sort
def sheetP (ts : List (List Int)) : Bool := decide (wayN ts ts.length).Nodup
theorem nodup_count : ∀ {l : List E2}, l.Nodup ↔ ∀ w, l.count w ≤ 1
 | [] => by simp
 | x :: l => by
  rw [List.nodup_cons, nodup_count]
  constructor
  ·rintro ⟨h1, h2⟩ w
   rw [List.count_cons];have := h2 w;split
   ·rename_i he
    have he : x = w := by simpa using he
    subst he;rw [List.count_eq_zero.2 h1];omega
   ·omega
  ·intro h
   refine ⟨fun hx => ?_, fun w => ?_⟩
   ·have := h x
    rw [List.count_cons_self] at this;have := List.count_pos_iff.2 hx;omega
   ·have := h w
    rw [List.count_cons] at this;omega
theorem cnt_le {W : List E2} {w : E2} (hn : W.Nodup) (hw : w ∉ W) : (W.map uW).count (uW w) ≤ 1 := by
 have e : (W.map uW).count (uW w) = (W.filter fun v => uW v == uW w).length := by rw [List.count, List.countP_map, List.countP_eq_length_filter];rfl
 rw [e]
 have h1 : (W.filter fun v => uW v == uW w).Nodup := hn.filter _
 have h2 : ∀ v ∈ W.filter fun v => uW v == uW w, v = (w.2, w.1) := by
  intro v hv;obtain ⟨a, b⟩ := List.mem_filter.1 hv;have b : uE v.1 v.2 = uE w.1 w.2 := by simpa [uW] using b
  rcases uE_iff.1 b with ⟨c, d⟩ | ⟨c, d⟩
  ·exact absurd (Prod.ext c d ▸ a) hw
  ·exact Prod.ext c d
 generalize W.filter (fun v => uW v == uW w) = L at h1 h2
 match L, h1, h2 with
 | [], _, _ => simp
 | [_], _, _ => simp
 | a :: b :: _, h1, h2 =>
  have e1 := h2 a (by simp)
  have e2 := h2 b (by simp)
  rw [e1, e2] at h1;simp at h1
structure InvS (gone : List (E2 × Bool)) (many : List (E2 × Int)) (W : List E2) : Prop where
 nodup : W.Nodup
 gone : ∀ w, (lk gone w).getD false = decide (w ∈ W)
 many : ∀ e, (lk many e).getD 0 = ((W.map uW).count e : Int)
theorem invS_nil : InvS [] [] [] := ⟨List.nodup_nil, fun _ => by simp [lk], fun _ => by simp [lk]⟩
theorem InvS.step {gone : List (E2 × Bool)} {many : List (E2 × Int)} {W : List E2} (h : InvS gone many W) (w : E2) :
  ((lk gone w).getD false || decide ((lk many (uW w)).getD 0 + 1 > 2)) = decide (w ∈ W) ∧ (w ∉ W → InvS (pt gone w true) (pt many (uW w) ((lk many (uW w)).getD 0 + 1)) (W ++ [w])) := by
 refine ⟨?_, fun hw => ⟨?_, fun v => ?_, fun e => ?_⟩⟩
 ·rw [h.gone, h.many]
  by_cases hw : w ∈ W
  ·simp [hw]
  ·have := cnt_le h.nodup hw
   simp only [hw, decide_false, Bool.false_or, decide_eq_false_iff_not];omega
 ·rw [List.nodup_append]
  exact ⟨h.nodup, by simp, fun a ha b hb => by simp only [List.mem_singleton] at hb; subst hb; rintro rfl; exact hw ha⟩
 ·rw [lk_pt]
  by_cases hv : w = v
  ·subst hv; simp
  ·rw [if_neg hv, h.gone]
   simp only [List.mem_append, List.mem_singleton]
   by_cases h2 : v ∈ W
   ·simp [h2]
   ·have hv' : ¬ v = w := fun q => hv q.symm
    simp [h2, hv']
 ·rw [lk_pt, List.map_append, List.count_append]
  by_cases he : uW w = e
  ·subst he
   rw [if_pos rfl, Option.getD_some, h.many];simp
  ·rw [if_neg he, h.many]
   simp [he]
def goesA (ts : List (List Int)) (a b j : Int) : Bool := goesP (ts.getD j.toNat []) a b
theorem cnt_tri {x y z a b : Int} (_h1 : x ≠ y) (_h2 : y ≠ z) (_h3 : x ≠ z) : (wayT [x, y, z] 3).count (a, b) = if goesP [x, y, z] a b then 1 else 0 := by
 rw [wayT3]
 simp only [List.count_cons, List.count_nil, goesP, List.getD_cons_zero, List.getD_cons_succ, beq_iff_eq, Prod.mk.injEq, Bool.or_eq_true, Bool.and_eq_true]
 by_cases e1 : x = a ∧ y = b
 ·rw [if_neg (by omega), if_neg (by omega), if_pos e1, if_pos (by omega)]
 ·by_cases e2 : y = a ∧ z = b
  ·rw [if_neg (by omega), if_pos e2, if_neg e1, if_pos (by omega)]
  ·by_cases e3 : z = a ∧ x = b
   ·rw [if_pos e3, if_neg e2, if_neg e1, if_pos (by omega)]
   ·rw [if_neg e3, if_neg e2, if_neg e1, if_neg (by omega)]
theorem goes_has {x y z a b : Int} (h : goesP [x, y, z] a b = true) : hasB [x, y, z] a b = true := by
 simp only [goesP, List.getD_cons_zero, List.getD_cons_succ, beq_iff_eq, Bool.or_eq_true, Bool.and_eq_true] at h
 simp only [hasB, List.contains_cons, List.contains_nil, Bool.or_false, Bool.and_eq_true, Bool.or_eq_true, beq_iff_eq]
 omega
theorem goes_rev {x y z a b : Int} (h1 : x ≠ y) (h2 : y ≠ z) (h3 : x ≠ z) (hab : a ≠ b) (h : hasB [x, y, z] a b = true) : goesP [x, y, z] b a = !goesP [x, y, z] a b := by
 simp only [hasB, List.contains_cons, List.contains_nil, Bool.or_false, Bool.and_eq_true, Bool.or_eq_true, beq_iff_eq] at h
 rw [Bool.eq_iff_iff]
 simp only [goesP, List.getD_cons_zero, List.getD_cons_succ, beq_iff_eq, Bool.or_eq_true, Bool.and_eq_true, Bool.not_eq_true', Bool.or_eq_false_iff, Bool.and_eq_false_iff, beq_eq_false_iff_ne]
 omega
theorem count_way {n : Int} {ts : List (List Int)} (h : TriOk n ts) (a b : Int) : ∀ i, i ≤ ts.length → (wayN ts i).count (a, b) = (atN ts a b i).countP (goesA ts a b)
 | 0, _ => rfl
 | i + 1, hi => by
  obtain ⟨x, y, z, ht, h1, h2, h3, _⟩ := h.at (show i < ts.length by omega)
  simp only [wayN, atN, List.count_append, count_way h a b i (by omega), ht, cnt_tri h1 h2 h3]
  cases hg : goesP [x, y, z] a b with
  | true =>
   rw [goes_has hg, if_pos rfl, if_pos rfl, List.countP_append];have : goesA ts a b (i : Int) = true := by unfold goesA; rw [Int.toNat_natCast, ht]; exact hg
   simp [this]
  | false =>
   rw [if_neg (by simp)]
   split
   ·rw [List.countP_append]
    have : goesA ts a b (i : Int) = false := by unfold goesA; rw [Int.toNat_natCast, ht]; exact hg
    simp [this]
   ·rfl
theorem count_rev {n : Int} {ts : List (List Int)} (h : TriOk n ts) {a b : Int} (hab : a ≠ b) : (wayN ts ts.length).count (b, a) = (atL ts a b).countP fun j => !goesA ts a b j := by
 rw [count_way h b a _ (Nat.le_refl _), atN_comm]
 refine List.countP_congr fun j hj => ?_
 have hj1 := atN_lt ts a b _ j hj
 have hj2 := atN_has ts a b _ j hj
 obtain ⟨x, y, z, ht, h1, h2, h3, _⟩ := h.at (show j.toNat < ts.length by omega)
 unfold goesA
 rw [ht] at hj2 ⊢
 rw [goes_rev h1 h2 h3 hab hj2]
end Vs
