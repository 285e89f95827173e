/-
  Sheets: no way is gone twice; the two tests agree.
-/
import Derived.Test.YtbaijndhllhplaaKq1
set_option maxHeartbeats 4000000
namespace Vs
open Go Go.Sort
theorem cnt_le {W : List E2} {w : E2} (hn : W.Nodup) (hw : w ∉ W) : (W.map uW).count (uW w) ≤ 1 := by
 have e : (W.map uW).count (uW w) = (W.filter fun v => uW v == uW w).length := by rw [List.count, List.countP_map, List.countP_eq_length_filter];rfl
 rw [e]
 have h1 : (W.filter fun v => uW v == uW w).Nodup := hn.filter _
 have h2 : ∀ v ∈ W.filter fun v => uW v == uW w, v = (w.2, w.1) := by
  intro v hv;obtain ⟨a, b⟩ := List.mem_filter.1 hv;have b : uE v.1 v.2 = uE w.1 w.2 := by simpa [uW] using b
  rcases uE_iff.1 b with ⟨c, d⟩ | ⟨c, d⟩
  ·exact absurd (Prod.ext c d ▸ a) hw
  ·exact Prod.ext c d
 generalize W.filter (fun v => uW v == uW w) = L at h1 h2
 match L, h1, h2 with
 | [], _, _ => simp
 | [_], _, _ => simp
 | a :: b :: _, h1, h2 =>
  have e1 := h2 a (by simp)
  have e2 := h2 b (by simp)
  rw [e1, e2] at h1;simp at h1
structure InvS (gone : List (E2 × Bool)) (many : List (E2 × Int)) (W : List E2) : Prop where
 nodup : W.Nodup
 gone : ∀ w, (lk gone w).getD false = decide (w ∈ W)
 many : ∀ e, (lk many e).getD 0 = ((W.map uW).count e : Int)
theorem InvS.step {gone : List (E2 × Bool)} {many : List (E2 × Int)} {W : List E2} (h : InvS gone many W) (w : E2) :
  ((lk gone w).getD false || decide ((lk many (uW w)).getD 0 + 1 > 2)) = decide (w ∈ W) ∧ (w ∉ W → InvS (pt gone w true) (pt many (uW w) ((lk many (uW w)).getD 0 + 1)) (W ++ [w])) := by
 refine ⟨?_, fun hw => ⟨?_, fun v => ?_, fun e => ?_⟩⟩
 ·rw [h.gone, h.many]
  by_cases hw : w ∈ W
  ·simp [hw]
  ·have := cnt_le h.nodup hw
   simp only [hw, decide_false, Bool.false_or, decide_eq_false_iff_not];omega
 ·rw [List.nodup_append]
  exact ⟨h.nodup, by simp, fun a ha b hb => by simp only [List.mem_singleton] at hb; subst hb; rintro rfl; exact hw ha⟩
 ·rw [lk_pt]
  by_cases hv : w = v
  ·subst hv; simp
  ·rw [if_neg hv, h.gone]
   simp only [List.mem_append, List.mem_singleton]
   by_cases h2 : v ∈ W
   ·simp [h2]
   ·have hv' : ¬ v = w := fun q => hv q.symm
    simp [h2, hv']
 ·rw [lk_pt, List.map_append, List.count_append]
  by_cases he : uW w = e
  ·subst he
   rw [if_pos rfl, Option.getD_some, h.many];simp
  ·rw [if_neg he, h.many]
   simp [he]
end Vs
