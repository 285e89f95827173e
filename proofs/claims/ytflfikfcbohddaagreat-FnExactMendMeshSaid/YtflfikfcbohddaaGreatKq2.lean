/-
  Sheets: no way is gone twice; the two tests agree.
-/
import Derived.Test.YtflfikfcbohddaaGreatKq1
set_option maxHeartbeats 4000000
namespace Vs
open Go Go.Sort
def sheetP (ts : List (List Int)) : Bool := decide (wayN ts ts.length).Nodup
theorem nodup_count : ∀ {l : List E2}, l.Nodup ↔ ∀ w, l.count w ≤ 1
 | [] => by simp
 | x :: l => by
  rw [List.nodup_cons, nodup_count]
  constructor
  ·rintro ⟨h1, h2⟩ w
   rw [List.count_cons];have := h2 w;split
   ·rename_i he
    have he : x = w := by simpa using he
    subst he;rw [List.count_eq_zero.2 h1];omega
   ·omega
  ·intro h
   refine ⟨fun hx => ?_, fun w => ?_⟩
   ·have := h x
    rw [List.count_cons_self] at this;have := List.count_pos_iff.2 hx;omega
   ·have := h w
    rw [List.count_cons] at this;omega
theorem cnt_le {W : List E2} {w : E2} (hn : W.Nodup) (hw : w ∉ W) : (W.map uW).count (uW w) ≤ 1 := by
 have e : (W.map uW).count (uW w) = (W.filter fun v => uW v == uW w).length := by rw [List.count, List.countP_map, List.countP_eq_length_filter];rfl
 rw [e]
 have h1 : (W.filter fun v => uW v == uW w).Nodup := hn.filter _
 have h2 : ∀ v ∈ W.filter fun v => uW v == uW w, v = (w.2, w.1) := by
  intro v hv;obtain ⟨a, b⟩ := List.mem_filter.1 hv;have b : uE v.1 v.2 = uE w.1 w.2 := by simpa [uW] using b
  rcases uE_iff.1 b with ⟨c, d⟩ | ⟨c, d⟩
  ·exact absurd (Prod.ext c d ▸ a) hw
  ·exact Prod.ext c d
 generalize W.filter (fun v => uW v == uW w) = L at h1 h2
 match L, h1, h2 with
 | [], _, _ => simp
 | [_], _, _ => simp
 | a :: b :: _, h1, h2 =>
  have e1 := h2 a (by simp)
  have e2 := h2 b (by simp)
  rw [e1, e2] at h1;simp at h1
structure InvS (gone : List (E2 × Bool)) (many : List (E2 × Int)) (W : List E2) : Prop where
 nodup : W.Nodup
 gone : ∀ w, (lk gone w).getD false = decide (w ∈ W)
 many : ∀ e, (lk many e).getD 0 = ((W.map uW).count e : Int)
theorem invS_nil : InvS [] [] [] := ⟨List.nodup_nil, fun _ => by simp [lk], fun _ => by simp [lk]⟩
theorem InvS.step {gone : List (E2 × Bool)} {many : List (E2 × Int)} {W : List E2} (h : InvS gone many W) (w : E2) :
  ((lk gone w).getD false || decide ((lk many (uW w)).getD 0 + 1 > 2)) = decide (w ∈ W) ∧ (w ∉ W → InvS (pt gone w true) (pt many (uW w) ((lk many (uW w)).getD 0 + 1)) (W ++ [w])) := by
 refine ⟨?_, fun hw => ⟨?_, fun v => ?_, fun e => ?_⟩⟩
 ·rw [h.gone, h.many]
  by_cases hw : w ∈ W
  ·simp [hw]
  ·have := cnt_le h.nodup hw
   simp only [hw, decide_false, Bool.false_or, decide_eq_false_iff_not];omega
 ·rw [List.nodup_append]
  exact ⟨h.nodup, by simp, fun a ha b hb => by simp only [List.mem_singleton] at hb; subst hb; rintro rfl; exact hw ha⟩
 ·rw [lk_pt]
  by_cases hv : w = v
  ·subst hv; simp
  ·rw [if_neg hv, h.gone]
   simp only [List.mem_append, List.mem_singleton]
   by_cases h2 : v ∈ W
   ·simp [h2]
   ·have hv' : ¬ v = w := fun q => hv q.symm
    simp [h2, hv']
 ·rw [lk_pt, List.map_append, List.count_append]
  by_cases he : uW w = e
  ·subst he
   rw [if_pos rfl, Option.getD_some, h.many];simp
  ·rw [if_neg he, h.many]
   simp [he]
def goesA (ts : List (List Int)) (a b j : Int) : Bool := goesP (ts.getD j.toNat []) a b
def chk (ts : List (List Int)) (e : E2) : Bool :=
 !(decide ((atL ts e.1 e.2).length > 2) || (decide ((atL ts e.1 e.2).length = 2) && (goesA ts e.1 e.2 ((atL ts e.1 e.2).getD 0 0) == goesA ts e.1 e.2 ((atL ts e.1 e.2).getD 1 0))))
def sheetS (ts : List (List Int)) (n : Nat) : Bool := (edgL ts n).all (chk ts)
theorem cnt_tri {x y z a b : Int} (_h1 : x ≠ y) (_h2 : y ≠ z) (_h3 : x ≠ z) : (wayT [x, y, z] 3).count (a, b) = if goesP [x, y, z] a b then 1 else 0 := by
 rw [wayT3]
 simp only [List.count_cons, List.count_nil, goesP, List.getD_cons_zero, List.getD_cons_succ, beq_iff_eq, Prod.mk.injEq, Bool.or_eq_true, Bool.and_eq_true]
 by_cases e1 : x = a ∧ y = b
 ·rw [if_neg (by omega), if_neg (by omega), if_pos e1, if_pos (by omega)]
 ·by_cases e2 : y = a ∧ z = b
  ·rw [if_neg (by omega), if_pos e2, if_neg e1, if_pos (by omega)]
  ·by_cases e3 : z = a ∧ x = b
   ·rw [if_pos e3, if_neg e2, if_neg e1, if_pos (by omega)]
   ·rw [if_neg e3, if_neg e2, if_neg e1, if_neg (by omega)]
theorem goes_has {x y z a b : Int} (h : goesP [x, y, z] a b = true) : hasB [x, y, z] a b = true := by
 simp only [goesP, List.getD_cons_zero, List.getD_cons_succ, beq_iff_eq, Bool.or_eq_true, Bool.and_eq_true] at h
 simp only [hasB, List.contains_cons, List.contains_nil, Bool.or_false, Bool.and_eq_true, Bool.or_eq_true, beq_iff_eq]
 omega
theorem goes_rev {x y z a b : Int} (h1 : x ≠ y) (h2 : y ≠ z) (h3 : x ≠ z) (hab : a ≠ b) (h : hasB [x, y, z] a b = true) : goesP [x, y, z] b a = !goesP [x, y, z] a b := by
 simp only [hasB, List.contains_cons, List.contains_nil, Bool.or_false, Bool.and_eq_true, Bool.or_eq_true, beq_iff_eq] at h
 rw [Bool.eq_iff_iff]
 simp only [goesP, List.getD_cons_zero, List.getD_cons_succ, beq_iff_eq, Bool.or_eq_true, Bool.and_eq_true, Bool.not_eq_true', Bool.or_eq_false_iff, Bool.and_eq_false_iff, beq_eq_false_iff_ne]
 omega
theorem count_way {n : Int} {ts : List (List Int)} (h : TriOk n ts) (a b : Int) : ∀ i, i ≤ ts.length → (wayN ts i).count (a, b) = (atN ts a b i).countP (goesA ts a b)
 | 0, _ => rfl
 | i + 1, hi => by
  obtain ⟨x, y, z, ht, h1, h2, h3, _⟩ := h.at (show i < ts.length by omega)
  simp only [wayN, atN, List.count_append, count_way h a b i (by omega), ht, cnt_tri h1 h2 h3]
  cases hg : goesP [x, y, z] a b with
  | true =>
   rw [goes_has hg, if_pos rfl, if_pos rfl, List.countP_append];have : goesA ts a b (i : Int) = true := by unfold goesA; rw [Int.toNat_natCast, ht]; exact hg
   simp [this]
  | false =>
   rw [if_neg (by simp)]
   split
   ·rw [List.countP_append]
    have : goesA ts a b (i : Int) = false := by unfold goesA; rw [Int.toNat_natCast, ht]; exact hg
    simp [this]
   ·rfl
theorem count_rev {n : Int} {ts : List (List Int)} (h : TriOk n ts) {a b : Int} (hab : a ≠ b) : (wayN ts ts.length).count (b, a) = (atL ts a b).countP fun j => !goesA ts a b j := by
 rw [count_way h b a _ (Nat.le_refl _), atN_comm]
 refine List.countP_congr fun j hj => ?_
 have hj1 := atN_lt ts a b _ j hj
 have hj2 := atN_has ts a b _ j hj
 obtain ⟨x, y, z, ht, h1, h2, h3, _⟩ := h.at (show j.toNat < ts.length by omega)
 unfold goesA
 rw [ht] at hj2 ⊢
 rw [goes_rev h1 h2 h3 hab hj2]
theorem two_lists (g : Int → Bool) (L : List Int) : (!(decide (L.length > 2) || (decide (L.length = 2) && (g (L.getD 0 0) == g (L.getD 1 0))))) = true ↔ L.countP g ≤ 1 ∧ (L.countP fun j => !g j) ≤ 1 := by
 match L with
 | [] => simp
 | [x] => simp [List.countP_cons]; constructor <;> split <;> omega
 | [x, y] =>
  simp only [List.countP_cons, List.countP_nil]
  cases hx : g x <;> cases hy : g y <;> simp [hx, hy]
 | x :: y :: z :: r =>
  have h := List.length_eq_countP_add_countP g (l := x :: y :: z :: r);have e : (List.countP (fun a => decide ¬g a = true) (x :: y :: z :: r)) = List.countP (fun j => !g j) (x :: y :: z :: r) := by
   refine List.countP_congr fun a _ => ?_
   cases g a <;> simp
  rw [e] at h;simp only [List.length_cons] at h ⊢
  constructor
  ·intro h2; simp at h2
  ·intro h2; omega
theorem chk_iff {n : Int} {ts : List (List Int)} (h : TriOk n ts) {a b : Int} (hab : a ≠ b) : chk ts (a, b) = true ↔ (wayN ts ts.length).count (a, b) ≤ 1 ∧ (wayN ts ts.length).count (b, a) ≤ 1 := by
 unfold chk
 rw [two_lists (goesA ts a b) (atL ts a b), count_way h a b _ (Nat.le_refl _), count_rev h hab]
 rfl
theorem way_ne {n : Int} {ts : List (List Int)} (h : TriOk n ts) : ∀ i, i ≤ ts.length → ∀ w ∈ wayN ts i, w.1 ≠ w.2 := by
 intro i
 induction i with
 | zero => intro _ w hw; simp [wayN] at hw
 | succ i ih =>
  intro hi w hw;simp only [wayN, List.mem_append] at hw
  rcases hw with hw | hw
  ·exact ih (by omega) w hw
  ·obtain ⟨x, y, z, ht, h1, h2, h3, h4, h5, h6⟩ := h.at (show i < ts.length by omega)
   rw [ht, wayT3] at hw;simp only [List.mem_cons, List.not_mem_nil, or_false] at hw
   rcases hw with rfl | rfl | rfl <;> simp only <;> omega
theorem sheet_eq {n : Nat} {ts : List (List Int)} (h : TriOk n ts) : sheetS ts n = sheetP ts := by
 rw [Bool.eq_iff_iff]
 unfold sheetS sheetP
 rw [List.all_eq_true, decide_eq_true_eq, nodup_count]
 constructor
 ·intro hc w
  by_cases hw : w ∈ wayN ts ts.length
  ·have hne := way_ne h _ (Nat.le_refl _) w hw
   have := hc (uW w) ((edgL_mem h _).2 ⟨w, hw, rfl⟩);have hm : (uW w).1 ≠ (uW w).2 := by unfold uW uE; simp only; omega
   obtain ⟨h1, h2⟩ := (chk_iff h (a := (uW w).1) (b := (uW w).2) hm).1 this
   rcases (uE_iff (a := (uW w).1) (b := (uW w).2) (x := w.1) (y := w.2)).1 (by unfold uW uE; simp only [Prod.mk.injEq]; omega) with ⟨e1, e2⟩ | ⟨e1, e2⟩
   ·rw [← e1, ← e2] at h1; exact h1
   ·rw [← e1, ← e2] at h2; exact h2
  ·rw [List.count_eq_zero.2 hw]; omega
 ·intro hc e he
  obtain ⟨w, hw, rfl⟩ := (edgL_mem h e).1 he;have hne := way_ne h _ (Nat.le_refl _) w hw;have hm : (uW w).1 ≠ (uW w).2 := by unfold uW uE; simp only; omega
  exact (chk_iff h (a := (uW w).1) (b := (uW w).2) hm).2 ⟨hc _, hc _⟩
end Vs
