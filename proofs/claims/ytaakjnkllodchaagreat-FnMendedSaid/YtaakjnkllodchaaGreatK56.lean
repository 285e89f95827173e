/-
  Mending keeps a sheet without twins, its number of Euler and bounds of its places.
-/
import Derived.Test.YtaakjnkllodchaaGreatK54
import Derived.Test.YtaakjnkllodchaaGreatK38
import Derived.Test.YtaakjnkllodchaaGreatK51
set_option maxHeartbeats 4000000
namespace Vs
open Go Go.Sort Ieee
def bd (k : Nat) : Nat := 1082130432 + k * 8388608
theorem bd_facts : ∀ k : Fin 8, (bd k.1 < inf .f32 ∧ bd k.1 < inf .f32 ∧ bd (k.1 + 1) ≤ inf .f32 ∧ Vk .f32 (bd k.1) + Vk .f32 (bd k.1) ≤ Vk .f32 (bd (k.1 + 1))) ∧
  (bd (k.1 + 1) < inf .f32 ∧ 1056964608 < inf .f32 ∧ bd k.1 ≤ inf .f32 ∧ Vk .f32 (bd (k.1 + 1)) * Vk .f32 1056964608 ≤ Vk .f32 (bd k.1) * dn .f32) := by decide +kernel
theorem half_rk : rk .f32 1056964608 ≤ 1056964608 := by decide
theorem mid_c {x y k : Nat} (hk : k < 8) (hx : rk .f32 x ≤ bd k) (hy : rk .f32 y ≤ bd k) : rk .f32 (fadd .f32 x (fmul .f32 (fsub .f32 y x) 1056964608)) ≤ bd (k + 1) := by
 obtain ⟨h1, h2⟩ := bd_facts ⟨k, hk⟩
 exact mg_add hx (mg_mul (mg_sub hy hx h1) half_rk h2) h1
theorem midV_c {vs : List V3} {k : Nat} (hk : k < 8) (h : ∀ v ∈ vs, cB v (bd k)) (p q : Int) : cB (midV vs p q 1056964608) (bd (k + 1)) := by
 have hp := get_c h p.toNat
 have hq := get_c h q.toNat
 exact ⟨mid_c hk hp.1 hq.1, mid_c hk hp.2.1 hq.2.1, mid_c hk hp.2.2 hq.2.2⟩
theorem cB_mono {v : V3} {c d : Nat} (h : cB v c) (hc : c ≤ d) : cB v d := ⟨Nat.le_trans h.1 hc, Nat.le_trans h.2.1 hc, Nat.le_trans h.2.2 hc⟩
theorem sq_c2 {x : Nat} (hx : rk .f32 x ≤ 1149239296) : rk .f32 (fmul .f32 x x) ≤ 1233125376 ∧ sgn single (fmul .f32 x x) = false := by
 have hi : inf .f32 = 2139095040 := infS
 obtain ⟨r, e, hr⟩ := fmul_R (k := .f32) (x := x) (y := x) (by omega) (by omega)
 refine ⟨mg_mul hx hx (by decide +kernel), ?_⟩
 rw [e, Bool.xor_self]
 exact sgn_word (k := .f32) hr.1
theorem len_c2 {u v : V3} (hu : cB u 1140850688) (hv : cB v 1140850688) : rk .f32 (longP (fsub .f32 u.x v.x) (fsub .f32 u.y v.y) (fsub .f32 u.z v.z)) ≤ 1635778560 := by
 have hq : (1140850688 : Nat) < inf .f32 ∧ 1140850688 < inf .f32 ∧ 1149239296 ≤ inf .f32 ∧ Vk .f32 1140850688 + Vk .f32 1140850688 ≤ Vk .f32 1149239296 := by decide +kernel
 obtain ⟨a1, a2⟩ := sq_c2 (mg_sub hu.1 hv.1 hq)
 obtain ⟨b1, b2⟩ := sq_c2 (mg_sub hu.2.1 hv.2.1 hq)
 obtain ⟨c1, c2⟩ := sq_c2 (mg_sub hu.2.2 hv.2.2 hq)
 obtain ⟨d1, d2⟩ := sum_c (c := 1241513984) _ _ a1 b1 a2 b2 (by decide +kernel)
 obtain ⟨e1, e2⟩ := sum_c (c := 1249902592) _ _ d1 c1 d2 c2 (by decide +kernel)
 exact root_fin (Nat.lt_of_le_of_lt e1 (by decide)) e2
theorem len_I {vs : List V3} (h : ∀ v ∈ vs, cB v 1140850688) (p q : Int) : rk .f32 (lenP vs p q) ≤ 1635778560 := len_c2 (get_c h p.toNat) (get_c h q.toNat)
theorem bst_min {num : E2 → Option Nat} {es : List E2} (hf : ∀ e v, num e = some v → rk .f32 v < inf .f32) : ∀ i,
  (∀ j v, bstN num (betL false) es i = some (j, v) → rk .f32 v < inf .f32) ∧ ∀ j x, j < i → num (es.getD j (0, 0)) = some x → ∃ j' v, bstN num (betL false) es i = some (j', v) ∧ sv .f32 v ≤ sv .f32 x
 | 0 => ⟨fun _ _ h => (nomatch (show (none : Option (Nat × Nat)) = some _ from h)), fun _ _ h _ => absurd h (Nat.not_lt_zero _)⟩
 | i + 1 => by
  obtain ⟨hA, hB⟩ := bst_min hf i;show (∀ j v, bstS num (betL false) es (bstN num (betL false) es i) i = some (j, v) → _) ∧ ∀ j x, _ → _ → ∃ j' v, bstS num (betL false) es (bstN num (betL false) es i) i = some (j', v) ∧ _
  cases hn : num (es.getD i (0, 0)) with
  | none =>
   rw [bstS_none hn];refine ⟨hA, fun j x hj hx => ?_⟩
   rcases Nat.lt_or_ge j i with h | h
   ·exact hB j x h hx
   ·rw [show j = i by omega, hn] at hx; cases hx
  | some z =>
   have hz := hf _ _ hn;have hzz : feq .f32 z z = true := by rw [feq_R hz hz]; exact decide_eq_true rfl
   rw [bstS_some hn, hzz, Bool.true_and]
   cases hs : bstN num (betL false) es i with
   | none =>
    refine ⟨fun j v h => ?_, fun j x hj hx => ?_⟩
    ·rw [if_pos (show betO (betL false) none z = true from rfl)] at h
     simp only [Option.some.injEq, Prod.mk.injEq] at h;rw [← h.2]; exact hz
    ·rcases Nat.lt_or_ge j i with h | h
     ·obtain ⟨_, _, h2, _⟩ := hB j x h hx
      rw [hs] at h2; cases h2
     ·rw [show j = i by omega, hn] at hx
      simp only [Option.some.injEq] at hx;subst hx;exact ⟨i, z, if_pos (show betO (betL false) none z = true from rfl), Int.le_refl _⟩
   | some st =>
    obtain ⟨j0, v0⟩ := st;have hv0 := hA j0 v0 hs;have hb : betO (betL false) (some (j0, v0)) z = decide (sv .f32 z < sv .f32 v0) := by show flt .f32 z v0 = _;exact flt_R hz hv0
    rw [hb];refine ⟨fun j v h => ?_, fun j x hj hx => ?_⟩
    ·split at h
     ·simp only [Option.some.injEq, Prod.mk.injEq] at h
      rw [← h.2]; exact hz
     ·simp only [Option.some.injEq, Prod.mk.injEq] at h
      rw [← h.2]; exact hv0
    ·rcases Nat.lt_or_ge j i with h | h
     ·obtain ⟨j', v', h2, h3⟩ := hB j x h hx
      rw [hs] at h2;simp only [Option.some.injEq, Prod.mk.injEq] at h2;obtain ⟨rfl, rfl⟩ := h2
      by_cases hc : sv .f32 z < sv .f32 v0
      ·exact ⟨i, z, if_pos (decide_eq_true hc), by omega⟩
      ·exact ⟨j0, v0, if_neg (by simpa using hc), h3⟩
     ·rw [show j = i by omega, hn] at hx
      simp only [Option.some.injEq] at hx;subst hx
      by_cases hc : sv .f32 z < sv .f32 v0
      ·exact ⟨i, z, if_pos (decide_eq_true hc), Int.le_refl _⟩
      ·exact ⟨j0, v0, if_neg (by simpa using hc), by omega⟩
structure Inv (vs : List V3) (ts : List (List Int)) (e : Int) (r : Nat) : Prop where
 v : validP vs.length ts = true
 s : sheetP ts = true
 t : twinB ts = false
 e : eulP vs.length ts = e
 n : vs.length + r ≤ 20
 m : ts.length + 2 * r ≤ 30
 ne : 1 ≤ ts.length
 c : ∀ v ∈ vs, cB v (bd (7 - r))
theorem Inv.less {vs : List V3} {ts : List (List Int)} {e : Int} {r k : Nat} (h : Inv vs ts e (k + r)) : Inv vs ts e r :=
 ⟨h.v, h.s, h.t, h.e, by have := h.n; omega, by have := h.m; omega, h.ne, fun v hv => cB_mono (h.c v hv) (by unfold bd; omega)⟩
theorem Inv.c7 {vs : List V3} {ts : List (List Int)} {e : Int} {r : Nat} (h : Inv vs ts e r) : ∀ v ∈ vs, cB v 1140850688 := fun v hv => cB_mono (h.c v hv) (by unfold bd; omega)
theorem edg_at0 {n : Nat} {ts : List (List Int)} (hv : validP n ts = true) {j : Nat} (hj : j < (edgL ts n).length) : (atL ts ((edgL ts n).getD j (0, 0)).1 ((edgL ts n).getD j (0, 0)).2).length ≠ 0 := by
 have hT := triOk_of hv
 have hm : (edgL ts n).getD j (0, 0) ∈ edgL ts n := by rw [List.getD_eq_getElem?_getD, List.getElem?_eq_getElem hj];exact List.getElem_mem hj
 obtain ⟨_, _, _, hpq⟩ := okP_ok (edg_ok hv hj)
 generalize (edgL ts n).getD j (0, 0) = e at hm hpq
 obtain ⟨a, b, _, _, hab, _, rfl⟩ := (edgN_mem ts n n e).1 hm
 have he : uE (a : Int) b = ((a : Int), (b : Int)) := uE_lt (by omega)
 rw [← he, edg_at hT] at hm
 intro h0
 have h1 : atL ts (a : Int) b = [] := List.length_eq_zero_iff.1 h0
 rcases hm with hm | hm
 ·have := List.count_pos_iff.2 hm
  rw [count_way hT _ _ _ (Nat.le_refl _), show atN ts (a : Int) b ts.length = [] from h1] at this
  simp at this
 ·have := List.count_pos_iff.2 hm
  rw [count_rev hT hpq, h1] at this;simp at this
theorem edg_pos {n : Nat} {ts : List (List Int)} (hv : validP n ts = true) (hn : 1 ≤ ts.length) : 0 < (edgL ts n).length := by
 have hT := triOk_of hv
 obtain ⟨x, y, z, e, _⟩ := hT.at (i := 0) (by omega)
 have hw : (x, y) ∈ wayN ts ts.length := wayN_mem.2 ⟨0, by omega, by rw [e, wayT3]; simp⟩
 exact List.length_pos_of_mem ((edg_at hT).2 (.inl hw))
theorem good_split {vs : List V3} {ts : List (List Int)} {e : Int} {r : Nat} (h : Inv vs ts e (r + 1)) {j : Nat} (hj : j < (edgL ts vs.length).length) :
  goodS vs.length ts ((edgL ts vs.length).getD j (0, 0)).1 ((edgL ts vs.length).getD j (0, 0)).2 = true := by
 obtain ⟨_, _, _, hpq⟩ := okP_ok (edg_ok h.v hj)
 have h0 := edg_at0 h.v hj
 obtain ⟨a1, ⟨a2, _⟩, _, a4⟩ := spl_main h.v h.s h.t hpq h0
 have h1 := h.n
 have h2 := h.m
 have hv := valid_of a1 (by omega) (by omega)
 unfold goodS
 rw [hv, a2, decide_eq_false h0]
 rfl
theorem splT_ne {n : Nat} {ts : List (List Int)} {p q : Int} (hn : 1 ≤ ts.length) : 1 ≤ (splT ts p q n).length := by
 have key : ∀ k, 1 ≤ (splN ts p q n k).length := by
  intro k
  induction k with
  | zero => exact hn
  | succ k ih =>
   show 1 ≤ (splS ts p q n (splN ts p q n k) _).length;unfold splS;split <;> simp
 exact key _
theorem mend_inv {vs : List V3} {ts : List (List Int)} {e : Int} {r x y : Nat} (h : Inv vs ts e (r + 1)) (hr : r + 1 ≤ 7) : Inv (mendM vs ts x y).1 (mendM vs ts x y).2.1 e r := by
 have hn := h.n
 have hm := h.m
 have hb : 7 - r = (7 - (r + 1)) + 1 := by omega
 unfold mendM
 split
 ·rename_i w he
  obtain ⟨j, v, h1, rfl, _, hg⟩ := bstE_at he;have hj := bstN_lt h1;obtain ⟨_, _, _, hpq⟩ := okP_ok (edg_ok h.v hj);have h0 := edg_at0 h.v hj;obtain ⟨a1, ⟨a2, a3⟩, a4, a5⟩ := spl_main h.v h.s h.t hpq h0;have hl : ∀ u : V3, (vs ++ [u]).length = vs.length + 1 := fun u => by simp
  have hv' := valid_of a1 (by omega) (by omega)
  unfold splM;refine ⟨?_, a2, a4, ?_, ?_, ?_, splT_ne h.ne, ?_⟩
  ·show validP (vs ++ [_]).length _ = true
   rw [hl];exact hv'
  ·show eulP (vs ++ [_]).length _ = _
   rw [hl, a3, h.e]
  ·show (vs ++ [_]).length + r ≤ 20
   rw [hl]; omega
  ·show (splT ts _ _ vs.length).length + 2 * r ≤ 30
   omega
  ·intro u hu
   rcases List.mem_append.1 hu with hu | hu
   ·exact cB_mono (h.c u hu) (by unfold bd; omega)
   ·rw [List.mem_singleton.1 hu, hb]
    exact midV_c (by omega) h.c _ _
 ·split
  ·rename_i w he
   obtain ⟨j, v, h1, rfl, _, hg⟩ := bstE_at he;obtain ⟨_, hp, hq, hpq⟩ := okP_ok (edg_ok h.v (bstN_lt h1));rw [okJ_eq] at hg;simp only [Bool.and_eq_true, Bool.not_eq_true', decide_eq_false_iff_not, beq_iff_eq] at hg;obtain ⟨_, g1, g2, g3, g4⟩ := hg;have hl := joinV_len hq;have hj := join_len ts ((edgL ts vs.length).getD j (0, 0)).1 ((edgL ts vs.length).getD j (0, 0)).2;unfold joiM;refine ⟨?_, g2, g3, ?_, ?_, ?_, ?_, ?_⟩
   ·show validP (joinV vs _).length _ = true
    rw [hl];exact valid_join h.v hp hq hpq
   ·show eulP (joinV vs _).length _ = _
    rw [hl, g4, h.e]
   ·show (joinV vs _).length + r ≤ 20
    rw [hl]; omega
   ·show (joinT ts _ _).length + 2 * r ≤ 30
    omega
   ·show 1 ≤ (joinT ts _ _).length
    omega
   ·intro u hu
    have : u ∈ vs := by
     rcases List.mem_append.1 hu with hu | hu
     ·exact List.mem_of_mem_take hu
     ·exact List.mem_of_mem_drop hu
    exact cB_mono (h.c u this) (by unfold bd; omega)
  ·split
   ·rename_i w he
    obtain ⟨j, v, h1, rfl, _, hg⟩ := bstE_at he;obtain ⟨_, _, _, hpq⟩ := okP_ok (edg_ok h.v (bstN_lt h1));have hl := flipT_len ts ((edgL ts vs.length).getD j (0, 0)).1 ((edgL ts vs.length).getD j (0, 0)).2;unfold fliM;refine ⟨flip_valid h.v h.s hpq hg, flip_sheet h.v h.s hpq hg, flip_twin h.v h.s h.t hpq hg, ?_, ?_, ?_, ?_, ?_⟩
    ·show eulP _ _ = _
     rw [flip_eul h.v h.s hpq hg, h.e]
    ·show vs.length + r ≤ 20
     omega
    ·show (flipT ts _ _).length + 2 * r ≤ 30
     omega
    ·show 1 ≤ (flipT ts _ _).length
     have := h.ne;omega
    ·exact fun u hu => cB_mono (h.c u hu) (by unfold bd; omega)
   ·exact (show Inv vs ts e r from (show Inv vs ts e (1 + r) by rw [Nat.add_comm]; exact h).less)
theorem mend_none {vs : List V3} {ts : List (List Int)} {x y : Nat} (h : (mendM vs ts x y).2.2 = 0) : mendM vs ts x y = (vs, ts, 0) := by
 unfold mendM at h ⊢
 split at h
 ·exact absurd h (show ¬ (1 : Int) = 0 by decide)
 ·split at h
  ·exact absurd h (show ¬ (2 : Int) = 0 by decide)
  ·split at h
   ·exact absurd h (show ¬ (3 : Int) = 0 by decide)
   ·rfl
theorem best_two {vs : List V3} {ts : List (List Int)} {e : Int} {r : Nat} (h : Inv vs ts e r) :
  ∃ j v i w, bstL vs ts true = some (j, v) ∧ bstL vs ts false = some (i, w) ∧ j < (edgL ts vs.length).length ∧ i < (edgL ts vs.length).length ∧ fge .f32 v w = true := by
 have hf : ∀ e v, numL vs e = some v → rk .f32 v < inf .f32 := fun e v hv => by unfold numL at hv;simp only [Option.some.injEq] at hv;rw [← hv];exact Nat.lt_of_le_of_lt (len_I h.c7 _ _) (by decide)
 have h0 := edg_pos h.v h.ne
 have h1 := bst_max hf (es := edgL ts vs.length) (edgL ts vs.length).length
 have h2 := bst_min hf (es := edgL ts vs.length) (edgL ts vs.length).length
 obtain ⟨j, v, e1, l1⟩ := h1.2 0 (lenP vs ((edgL ts vs.length).getD 0 (0, 0)).1 ((edgL ts vs.length).getD 0 (0, 0)).2) h0 rfl
 obtain ⟨i, w, e2, l2⟩ := h2.2 0 (lenP vs ((edgL ts vs.length).getD 0 (0, 0)).1 ((edgL ts vs.length).getD 0 (0, 0)).2) h0 rfl
 refine ⟨j, v, i, w, e1, e2, bstN_lt e1, bstN_lt e2, ?_⟩
 rw [fge_R (h1.1 _ _ e1) (h2.1 _ _ e2)]
 exact decide_eq_true (by omega)
theorem mend_split {vs : List V3} {ts : List (List Int)} {e : Int} {r x y j v : Nat} (h : Inv vs ts e (r + 1)) (hb : bstL vs ts true = some (j, v)) : ((mendM vs ts x y).2.2 == 1) = fgt .f32 v y := by
 have hl : longE vs ts y = if fgt .f32 v y = true then some ((edgL ts vs.length).getD j (0, 0)) else none := by unfold longE;rw [hb];unfold bstE;simp only [Option.bind_some, good_split h (bstN_lt hb), Bool.and_true]
 unfold mendM
 rw [hl]
 cases hc : fgt .f32 v y
 ·rw [if_neg (by simp)]
  simp only;split
  ·rfl
  ·split <;> rfl
 ·rw [if_pos rfl]
  rfl
def stM (x y : Nat) (s : List V3 × List (List Int)) : List V3 × List (List Int) := ((mendM s.1 s.2 x y).1, (mendM s.1 s.2 x y).2.1)
def itM (x y : Nat) (s : List V3 × List (List Int)) : Nat → List V3 × List (List Int)
 | 0 => s
 | i + 1 => stM x y (itM x y s i)
def acM (x y : Nat) (s : List V3 × List (List Int)) (i : Nat) : Int := (mendM (itM x y s i).1 (itM x y s i).2 x y).2.2
theorem itM_front (x y : Nat) (s : List V3 × List (List Int)) : ∀ i, itM x y (stM x y s) i = itM x y s (i + 1)
 | 0 => rfl
 | i + 1 => by show stM x y (itM x y (stM x y s) i) = stM x y (itM x y s (i + 1));rw [itM_front x y s i]
theorem acM_front (x y : Nat) (s : List V3 × List (List Int)) (i : Nat) : acM x y (stM x y s) i = acM x y s (i + 1) := by
 unfold acM
 rw [itM_front]
theorem mendR_it (x y : Nat) : ∀ (k : Nat) (s : List V3 × List (List Int)) (acts : List Int), ∃ j, j ≤ k ∧ mendR x y k s.1 s.2 acts = ((itM x y s j).1, (itM x y s j).2, acts ++ (List.range j).map (acM x y s)) ∧ (∀ i, i < j → acM x y s i ≠ 0) ∧ (j < k → acM x y s j = 0)
 | 0, s, acts => ⟨0, Nat.le_refl _, by simp [mendR, itM], fun i h => absurd h (Nat.not_lt_zero _), fun h => absurd h (Nat.not_lt_zero _)⟩
 | k + 1, s, acts => by
  unfold mendR;split
  ·rename_i h0
   exact ⟨0, Nat.zero_le _, by simp [itM], fun i h => absurd h (Nat.not_lt_zero _), fun _ => h0⟩
  ·rename_i h0
   obtain ⟨j, h1, h2, h3, h4⟩ := mendR_it x y k (stM x y s) (acts ++ [(mendM s.1 s.2 x y).2.2]);refine ⟨j + 1, by omega, ?_, fun i hi => ?_, fun h => ?_⟩
   ·rw [show mendR x y k (mendM s.1 s.2 x y).1 (mendM s.1 s.2 x y).2.1 (acts ++ [(mendM s.1 s.2 x y).2.2]) = _ from h2, itM_front, List.range_succ_eq_map, List.map_cons, List.map_map, List.append_assoc]
    have : (List.range j).map (acM x y (stM x y s)) = (List.range j).map (acM x y s ∘ Nat.succ) := List.map_congr_left fun i _ => acM_front x y s i
    rw [this];rfl
   ·match i with
    | 0 => exact h0
    | i + 1 => rw [← acM_front]; exact h3 i (by omega)
   ·rw [← acM_front]
    exact h4 (by omega)
theorem itM_inv {e : Int} {x y : Nat} {s : List V3 × List (List Int)} {r : Nat} : ∀ {i : Nat}, Inv s.1 s.2 e (i + r) → i + r ≤ 7 → Inv (itM x y s i).1 (itM x y s i).2 e r
 | 0, h, _ => by rw [Nat.zero_add] at h; exact h
 | i + 1, h, hr => by
  have := itM_inv (x := x) (y := y) (s := s) (r := r + 1) (i := i) (by rw [show i + (r + 1) = i + 1 + r by omega]; exact h) (by omega)
  exact mend_inv this (by omega)
end Vs
