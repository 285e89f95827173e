/-
  The moved forms: their places lie on a grid; what is thick; places that are dropped.
-/
import Derived.Test.YtaakjnkllodchaaK51
import Derived.Test.YtaakjnkllodchaaK58
import Derived.Test.YtaakjnkllodchaaK45
import Derived.Test.YtaakjnkllodchaaK14
import Derived.Test.YtaakjnkllodchaaFe6
set_option maxHeartbeats 4000000
namespace Vs
open Go Go.Sort Ieee
instance (t : Nat) (v : V3) : Decidable (vG t v) := inferInstanceAs (Decidable ((_ ∣ _) ∧ (_ ∣ _) ∧ (_ ∣ _)))
instance (t x : Nat) : Decidable (gr .f32 t x) := inferInstanceAs (Decidable (_ ∣ _))
theorem form_g0 : ∀ v ∈ fv0, vG 126 v := by decide +kernel
theorem form_g1 : ∀ v ∈ fv1, vG 126 v := by decide +kernel
theorem form_g2 : ∀ v ∈ fv2, vG 126 v := by decide +kernel
theorem form_g3 : ∀ v ∈ fv3, vG 126 v := by decide +kernel
theorem form_g4 : ∀ v ∈ fv4, vG 126 v := by decide +kernel
theorem form_g : ∀ k, ∀ v ∈ formV k, vG 126 v
 | 0 => form_g0
 | 1 => form_g1
 | 2 => form_g2
 | 3 => form_g3
 | _ + 4 => form_g4
theorem off9g : ∀ n : Fin 9, gr .f32 126 (fdiv .f32 (i2f .f32 ((n.1 : Int) - 4)) 1090519040) := by decide +kernel
theorem off_g {cs : List Int} (h : bytes cs) (j : Nat) : gr .f32 126 (offF cs j) := by
 obtain ⟨h0, h1⟩ := pkN_rng h j
 have := off9g ⟨(pkN cs j).toNat, by omega⟩
 simp only [Int.toNat_of_nonneg h0] at this
 exact this
theorem add_g {x y : Nat} (hx : rk .f32 x ≤ 1073741824) (hy : rk .f32 y ≤ 1056964608) (gx : gr .f32 126 x) (gy : gr .f32 126 y) : gr .f32 126 (fadd .f32 x y) :=
 gr_add (fin_of hx (by decide)) (fin_of hy (by decide)) (fin_of (add_c hx hy) (by decide)) gx gy
theorem mv_g {cs : List Int} (h : bytes cs) (k : Nat) : ∀ v ∈ mvA cs (formV k), vG 126 v ∧ vB 1077936128 v := by
 intro v hv
 have hc := mv_c h k
 obtain ⟨i, hi, rfl⟩ := List.getElem_of_mem hv
 have hl : (mvA cs (formV k)).length = (formV k).length := mvN_len cs (formV k) _
 have e : (mvA cs (formV k))[i] = mvV cs i ((formV k).getD i ⟨0, 0, 0⟩) := by rw [← getD_lt (d := ⟨0, 0, 0⟩) hi];unfold mvA;rw [mvN_get, if_pos ⟨by omega, by omega⟩]
 refine ⟨?_, ?_⟩
 ·rw [e]
  have hm : (formV k).getD i ⟨0, 0, 0⟩ ∈ formV k := by rw [getD_lt (by omega)]; exact List.getElem_mem (by omega)
  have hg := form_g k _ hm;have hb := form_c k _ hm;generalize (formV k).getD i ⟨0, 0, 0⟩ = w at hg hb;exact ⟨add_g hb.1 (off_c h _) hg.1 (off_g h _), add_g hb.2.1 (off_c h _) hg.2.1 (off_g h _), add_g hb.2.2 (off_c h _) hg.2.2 (off_g h _)⟩
 ·have := hc (i : Int)
  unfold atV at this;rw [Int.toNat_natCast, getD_lt hi] at this;exact this
theorem two_sv : sv .f32 1073741824 = ((2 ^ 150 : Nat) : Int) := by decide +kernel
theorem v3_le : 2 * V single 1077936128 ≤ V single 1086324736 := by decide +kernel
theorem dbl_sc {x : Nat} (hx : rk .f32 x ≤ 1077936128) : Sc .f32 1 x (fmul .f32 x 1073741824) ∧ rk .f32 (fmul .f32 x 1073741824) ≤ 1086324736 := by
 have hf := fin_of hx (by decide)
 obtain ⟨h1, h2⟩ := mul_S (k := .f32) hf (show rk .f32 1073741824 < inf .f32 by decide)
 obtain ⟨q, hq⟩ := V_dbl single (rk .f32 x)
 have hqi : q ≤ 1086324736 := by refine V_le (f := single) ?_;have := V_mono single hx;have := v3_le;omega
 have hN : (sv .f32 x * sv .f32 1073741824).natAbs = V single q * 2 ^ (single.leastPlace - 2 * FloatKind.f32.format.leastPlace).toNat := by
  rw [Int.natAbs_mul, sv_abs, two_sv, Int.natAbs_natCast, hq, show (single.leastPlace - 2 * FloatKind.f32.format.leastPlace).toNat = 149 by decide, Nat.pow_succ]
  show V single (rk .f32 x) * (2 ^ 149 * 2) = _;generalize 2 ^ 149 = w
  grind
 rw [hN, show rungN FloatKind.f32.format (V single q * 2 ^ (single.leastPlace - 2 * FloatKind.f32.format.leastPlace).toNat) (2 * FloatKind.f32.format.leastPlace) = q from rung_val okS (by decide) (Nat.le_trans hqi (by decide))] at h2
 refine ⟨⟨hf, by rw [h2]; exact Nat.lt_of_le_of_lt hqi (by decide), ?_⟩, by rw [h2]; exact hqi⟩
 rw [h1, h2, two_sv]
 have hv := sv_abs .f32 x
 have hp : (0 : Int) < ((2 ^ 150 : Nat) : Int) := Int.natCast_pos.2 (Nat.two_pow_pos _)
 have hV : (Vk .f32 q : Int) = 2 * (Vk .f32 (rk .f32 x) : Int) := by rw [show Vk .f32 q = 2 * Vk .f32 (rk .f32 x) from hq]; push_cast; rfl
 generalize ((2 ^ 150 : Nat) : Int) = w at *
 rcases Int.lt_or_le (sv .f32 x) 0 with hs | hs
 ·rw [if_pos (Int.mul_neg_of_neg_of_pos hs hp), hV]
  omega
 ·rw [if_neg (Int.not_lt.2 (Int.mul_nonneg hs (Int.le_of_lt hp))), hV]
  omega
theorem dbl_v {v : V3} (h : vB 1077936128 v) : vS 1 v (V3.scale v 1073741824) ∧ vB 1086324736 (V3.scale v 1073741824) :=
 ⟨⟨(dbl_sc h.1).1, (dbl_sc h.2.1).1, (dbl_sc h.2.2).1⟩, (dbl_sc h.1).2, (dbl_sc h.2.1).2, (dbl_sc h.2.2).2⟩
theorem up6 {v : V3} (h : vB 1077936128 v) : vB 1086324736 v := ⟨Nat.le_trans h.1 (by decide), Nat.le_trans h.2.1 (by decide), Nat.le_trans h.2.2 (by decide)⟩
theorem thk_two {vs : List V3} {ts : List (List Int)} (hv : validP vs.length ts = true) (h : ∀ v ∈ vs, vG 126 v ∧ vB 1077936128 v) {i : Nat} (hi : i < ts.length) :
  thk (sclA 1073741824 vs) ts i = thk vs ts i ∧ (rk .f32 (thk vs ts i) < inf .f32 ∨ feq .f32 (thk vs ts i) (thk vs ts i) = false) ∧ fgt .f64 (wide (thk vs ts i)) 4607186922399644778 = false := by
 obtain ⟨a, b, c, hc⟩ := corner_ok hv hi
 obtain ⟨p, q, r, ht, ip, iq, ir, rfl, rfl, rfl⟩ := corner_inv hc
 have hs : corner (sclA 1073741824 vs) ts[i] = some (plc (sclA 1073741824 vs) p, plc (sclA 1073741824 vs) q, plc (sclA 1073741824 vs) r) := by
  rw [ht];show (if (inr (sclA 1073741824 vs).length p && inr (sclA 1073741824 vs).length q && inr (sclA 1073741824 vs).length r) = true then some (plc (sclA 1073741824 vs) p, plc (sclA 1073741824 vs) q, plc (sclA 1073741824 vs) r) else none) = _
  rw [sclA_len, ip, iq, ir];rfl
 have get : ∀ x : Int, inr vs.length x = true → (vG 126 (plc vs x) ∧ vB 1077936128 (plc vs x)) ∧ plc (sclA 1073741824 vs) x = V3.scale (plc vs x) 1073741824 := fun x hx => by
  obtain ⟨h0, h1⟩ := inr_iff'.1 hx;have hl : x.toNat < vs.length := by omega
  refine ⟨?_, ?_⟩
  ·unfold plc
   rw [getD_lt hl];exact h _ (List.getElem_mem hl)
  ·unfold plc
   exact sclA_get hl
 obtain ⟨⟨ga, ba⟩, ea⟩ := get p ip
 obtain ⟨⟨gb, bb⟩, eb⟩ := get q iq
 obtain ⟨⟨gc, bc⟩, ec⟩ := get r ir
 rw [thk_eq hi hc, thk_eq hi hs, ea, eb, ec]
 obtain ⟨sa, ba'⟩ := dbl_v ba
 obtain ⟨sb, bb'⟩ := dbl_v bb
 obtain ⟨sc, bc'⟩ := dbl_v bc
 exact ⟨thick_scale (up6 ba) (up6 bb) (up6 bc) ba' bb' bc' ga gb gc sa sb sc, thick_one (up6 ba) (up6 bb) (up6 bc) ga gb gc⟩
theorem thin_mem {vs : List V3} {ts : List (List Int)} {k i : Nat} (h : flt .f32 (thk vs ts i) k = true) : ∀ n, i < n → (i : Int) ∈ thinN vs ts k n
 | 0, hn => absurd hn (Nat.not_lt_zero _)
 | n + 1, hn => by
  simp only [thinN]
  rcases Nat.lt_or_ge i n with h1 | h1
  ·have := thin_mem h n h1
   split
   ·exact List.mem_append_left _ this
   ·exact this
  ·have e : i = n := by omega
   subst e;rw [if_pos h];simp
theorem dp_all {vs : List V3} {ts : List (List Int)} : ∀ {m : Nat}, m ≤ vs.length → (∀ i, i < m → usedP ts i = true) → (dpN vs ts m).1 = vs.take m ∧ ∀ j, j < m → (dpN vs ts m).2.getD j 0 = (j : Int)
 | 0, _, _ => ⟨by simp [dpN], fun j h => absurd h (Nat.not_lt_zero _)⟩
 | m + 1, hm, h => by
  obtain ⟨h1, h2⟩ := dp_all (vs := vs) (ts := ts) (m := m) (by omega) (fun i hi => h i (by omega))
  have hl := (dpN_len vs ts m).2;simp only [dpN];rw [if_pos (h m (by omega))]
  refine ⟨?_, fun j hj => ?_⟩
  ·simp only
   rw [h1, List.take_add_one, getD_lt (by omega), List.getElem?_eq_getElem (by omega)]
   rfl
  ·simp only
   rw [List.getD_eq_getElem?_getD, List.getElem?_set]
   by_cases he : m = j
   ·subst he
    rw [if_pos rfl, if_pos (by rw [hl]; omega), Option.getD_some, h1, List.length_take]
    congr 1
    omega
   ·rw [if_neg he, ← List.getD_eq_getElem?_getD]
    exact h2 j (by omega)
theorem tris_same {n : Nat} {ts : List (List Int)} {a : List Int} (hT : TriOk n ts) (h : ∀ j, j < n → a.getD j 0 = (j : Int)) : trisD a ts = ts := by
 unfold trisD
 have : ∀ t ∈ ts, (t.map fun p => a.getD p.toNat 0) = t := fun t ht => by obtain ⟨x, y, z, rfl, _, _, _, hx, hy, hz⟩ := hT t ht;simp only [List.map_cons, List.map_nil];rw [h x.toNat (by omega), h y.toNat (by omega), h z.toNat (by omega), Int.toNat_of_nonneg hx.1, Int.toNat_of_nonneg hy.1, Int.toNat_of_nonneg hz.1]
 rw [List.map_congr_left this, List.map_id']
theorem drop_same {vs : List V3} {ts : List (List Int)} (hv : validP vs.length ts = true) (hu : ∀ i, i < vs.length → usedP ts i = true) : ptsD vs ts = vs ∧ trisD (numD vs ts) ts = ts := by
 obtain ⟨h1, h2⟩ := dp_all (Nat.le_refl _) hu
 refine ⟨?_, tris_same (triOk_of hv) h2⟩
 unfold ptsD
 rw [h1, List.take_length]
theorem used_top {n : Nat} {ts : List (List Int)} (hT : TriOk n ts) : usedP ts n = false := by
 unfold usedP
 rw [List.any_eq_false]
 intro t ht
 obtain ⟨x, y, z, rfl, _, _, _, hx, hy, hz⟩ := hT t ht
 simp only [List.contains_cons, List.contains_nil, Bool.or_false, Bool.or_eq_true, beq_iff_eq]
 omega
theorem drop_longer {vs : List V3} {ts : List (List Int)} {v : V3} (hv : validP vs.length ts = true) (hu : ∀ i, i < vs.length → usedP ts i = true) : ptsD (vs ++ [v]) ts = vs ∧ trisD (numD (vs ++ [v]) ts) ts = ts := by
 have hT := triOk_of hv
 have hl : (vs ++ [v]).length = vs.length + 1 := by simp
 obtain ⟨h1, h2⟩ := dp_all (vs := vs ++ [v]) (m := vs.length) (by omega) hu
 have e : dpN (vs ++ [v]) ts (vs.length + 1) = dpN (vs ++ [v]) ts vs.length := by rw [dpN, if_neg (by rw [used_top hT]; simp)]
 unfold ptsD numD
 rw [hl, e, h1]
 refine ⟨by simp, tris_same hT h2⟩
theorem form_used : ∀ k : Fin 5, ∀ i : Fin (formV k.1).length, usedP (formT k.1) i.1 = true := by decide +kernel
theorem form_used' {k : Nat} (hk : k < 5) (i : Nat) (hi : i < (formV k).length) : usedP (formT k) i = true := form_used ⟨k, hk⟩ ⟨i, hi⟩
theorem form_8 : ∀ k : Fin 5, 8 ≤ (formT k.1).length ∧ (formV k.1).length ≤ 63 := by decide +kernel
theorem valid_longer {n : Nat} {ts : List (List Int)} (hv : validP n ts = true) (hn : n ≤ 63) : validP (n + 1) ts = true := by
 have hT := triOk_of hv
 refine valid_of (fun t ht => ?_) (by omega) (valid_len hv).2
 obtain ⟨x, y, z, e, h1, h2, h3, hx, hy, hz⟩ := hT t ht
 exact ⟨x, y, z, e, h1, h2, h3, by omega, by omega, by omega⟩
theorem valid_hole {n j : Nat} {ts : List (List Int)} (hv : validP n ts = true) (hj : j < ts.length) : validP n (holL ts j) = true ∧ (holL ts j).length = ts.length - 1 := by
 have hT := triOk_of hv
 have hl : (holL ts j).length = ts.length - 1 := by unfold holL;rw [List.length_append, List.length_take, List.length_drop];omega
 have := valid_len hv
 refine ⟨valid_of (fun t ht => hT t ?_) (by omega) (by omega), hl⟩
 unfold holL at ht
 rcases List.mem_append.1 ht with h | h
 ·exact List.mem_of_mem_take h
 ·exact List.mem_of_mem_drop h
end Vs
