/-
  Flips of edges, what is gained by them, and the laws CanFlip, FlipGain, FlipEdge.
-/
import Derived.Test.YtflfikfcbohddaaK28
import Derived.Test.YtflfikfcbohddaaMq1
namespace Vs
open Go Go.Sort

theorem longP_swap (a b c x y z : Nat) : longP (fsub .f32 a x) (fsub .f32 b y) (fsub .f32 c z) = longP (fsub .f32 x a) (fsub .f32 y b) (fsub .f32 z c) := by
  unfold longP innerP
  rw [sq_swap a x, sq_swap b y, sq_swap c z]
theorem lenP_comm (vs : List V3) (p q : Int) : lenP vs p q = lenP vs q p := longP_swap _ _ _ _ _ _
/-- The other way round. -/
theorem flip_swap {n : Nat} {ts : List (List Int)} (hv : validP n ts = true) {p q : Int} (hpq : p ≠ q) (h2 : (atL ts p q).length = 2) : flC ts q p = flD ts p q ∧ flD ts q p = flC ts p q ∧ oneI ts q p = twoI ts p q ∧ twoI ts q p = oneI ts p q := by
  have hT := triOk_of hv
  obtain ⟨u, v, huv⟩ := len2 h2
  have hu : u ∈ atL ts p q := by rw [huv]; simp
  obtain ⟨x, y, z, ht, h1, h2, h3, _, _, _, hh⟩ := atL_tri hT hu
  have hc : atL ts q p = atL ts p q := atN_comm ts q p _
  have hg : goesA ts q p u = !goesA ts p q u := by
    unfold goesA
    rw [ht]
    exact goes_rev h1 h2 h3 hpq hh
  have e1 : oneI ts q p = twoI ts p q := by
    unfold oneI twoI
    rw [hc, huv]
    simp only [List.getD_cons_zero, List.getD_cons_succ, hg]
    cases goesA ts p q u <;> rfl
  have e2 : twoI ts q p = oneI ts p q := by
    unfold oneI twoI
    rw [hc, huv]
    simp only [List.getD_cons_zero, List.getD_cons_succ, hg]
    cases goesA ts p q u <;> rfl
  have e3 : ∀ t : List Int, thirdP t q p = thirdP t p q := fun t => by unfold thirdP; omega
  refine ⟨?_, ?_, e1, e2⟩
  · unfold flC flD; rw [e1, e3]
  · unfold flC flD; rw [e2, e3]
theorem flipB_comm {n : Nat} {ts : List (List Int)} (hv : validP n ts = true) {p q : Int} (hpq : p ≠ q) : flipB ts q p = flipB ts p q := by
  have hc : atL ts q p = atL ts p q := atN_comm ts q p _
  unfold flipB
  rw [hc]
  by_cases h2 : (atL ts p q).length = 2
  · obtain ⟨e1, e2, _, _⟩ := flip_swap hv hpq h2
    unfold flipQ
    rw [e1, e2, show atL ts (flD ts p q) (flC ts p q) = atL ts (flC ts p q) (flD ts p q) from atN_comm ts _ _ _, bne_comm]
  · rw [decide_eq_false h2]; rfl
theorem gn_comm {n : Nat} {vs : List V3} {ts : List (List Int)} (hv : validP n ts = true) {p q : Int} (hpq : p ≠ q) (h : flipB ts p q = true) : gnP vs ts q p = gnP vs ts p q := by
  unfold flipB at h
  simp only [Bool.and_eq_true, decide_eq_true_eq] at h
  obtain ⟨e1, e2, _, _⟩ := flip_swap hv hpq h.1
  unfold gnP
  rw [e1, e2, lenP_comm vs q p, lenP_comm vs (flD ts p q)]

theorem flipB_two {ts : List (List Int)} {p q : Int} (h : flipB ts p q = true) : (atL ts p q).length = 2 ∧ flipQ ts p q = true := by
  unfold flipB at h
  simpa using h
attribute [local irreducible] IntKind.wrap il tl vl bo mpD kD inr validP sheetP longP fsub lenP atV flC flD oneI twoI pairP flipQ atL

set_option maxHeartbeats 4000000 in
theorem run417 {G : Told} (g406 : G 406 = F406) (g407 : G 407 = F407) (g408 : G 408 = F408) (g13 : G 13 = F13) (g15 : G 15 = F15) : ∀ ds rs, F417 ds = some rs → ∃ fuel, run G fuel T417 ds = some (0, rs) := by
  intro ds rs h
  unfold F417 at h
  split at h
  case h_2 => cases h
  rename_i a b p q
  obtain ⟨vs, ha, h⟩ := Option.bind_eq_some_iff.1 h
  obtain ⟨ts, hb, h⟩ := Option.bind_eq_some_iff.1 h
  rw [dV_inv ha, dT_inv hb]
  split at h
  case isFalse => cases h
  rename_i hc
  simp only [Option.some.injEq] at h
  subst h
  clear ha
  clear hb
  obtain ⟨hv, hp, hq, hpq⟩ := okP_ok hc
  refine ⟨0, ?_⟩
  rw [eq417]
  unfold S417
  have v1 : gev none .idx [vl vs, .int p] = some (vec (atV vs p)) := by unfold atV; exact p_vj hp.1 (by omega)
  have v2 : gev none .idx [vl vs, .int q] = some (vec (atV vs q)) := by unfold atV; exact p_vj hq.1 (by omega)
  have c13 : ∀ a b c x y z : Nat, gcall G none 13 [.flt a, .flt b, .flt c, .flt x, .flt y, .flt z] 3 = some [.flt (fsub .f32 a x), .flt (fsub .f32 b y), .flt (fsub .f32 c z)] := fun a b c x y z => gcall_on g13 rfl rfl rfl
  have c15 : ∀ p q : Int, gcall G none 15 [.flt (fsub .f32 (atV vs p).x (atV vs q).x), .flt (fsub .f32 (atV vs p).y (atV vs q).y), .flt (fsub .f32 (atV vs p).z (atV vs q).z)] 1 = some [.flt (lenP vs p q)] := fun p q => by unfold lenP; exact gcall_on g15 rfl rfl rfl
  have c0 : gcall G none 406 [vl vs, tl ts, .int p, .int q] 5 = some (if flipB ts p q = true then [.int (oneI ts p q), .int (twoI ts p q), .int (flC ts p q), .int (flD ts p q), .bool true] else [.int 0, .int 0, .int 0, .int 0, .bool false]) := gcall_on g406 rfl (F406_m hc) (by split <;> rfl)
  by_cases hf : flipB ts p q = true
  case neg =>
    rw [if_neg hf] at c0 ⊢
    simp only [t_t, p_bnot, Option.bind_some, List.getD_cons_zero, List.getD_cons_succ, Bool.not_false, c0]
  case pos =>
    rw [if_pos hf] at c0 ⊢
    obtain ⟨_, _, _, _, _, _, _, _, _, _, _, _, _, _, hC, hE, _, _⟩ := two_facts hv g407 g408 hpq (flipB_two hf).1
    have v3 : gev none .idx [vl vs, .int (flC ts p q)] = some (vec (atV vs (flC ts p q))) := by unfold atV; exact p_vj hC.1 (by omega)
    have v4 : gev none .idx [vl vs, .int (flD ts p q)] = some (vec (atV vs (flD ts p q))) := by unfold atV; exact p_vj hE.1 (by omega)
    unfold gnP
    simp only [t_f, p_bnot, p_v0, p_v1, p_v2, p_fsub, Option.bind_some, List.getD_cons_zero, List.getD_cons_succ, Bool.not_true, c0, v1, v2, v3, v4, c13, c15]

set_option maxHeartbeats 4000000 in
theorem run417s {G : Told} (g415 : G 415 = F415) (g407 : G 407 = F407) (g408 : G 408 = F408) (g13 : G 13 = F13) (g15 : G 15 = F15) : ∀ ds rs, F417 ds = some rs → ∃ fuel, run G fuel T417s ds = some (0, rs) := by
  intro ds rs h
  unfold F417 at h
  split at h
  case h_2 => cases h
  rename_i a b p q
  obtain ⟨vs, ha, h⟩ := Option.bind_eq_some_iff.1 h
  obtain ⟨ts, hb, h⟩ := Option.bind_eq_some_iff.1 h
  rw [dV_inv ha, dT_inv hb]
  split at h
  case isFalse => cases h
  rename_i hc
  simp only [Option.some.injEq] at h
  subst h
  clear ha
  clear hb
  obtain ⟨hv, hp, hq, hpq⟩ := okP_ok hc
  refine ⟨0, ?_⟩
  rw [eq417s]
  unfold S417s
  have v1 : gev none .idx [vl vs, .int p] = some (vec (atV vs p)) := by unfold atV; exact p_vj hp.1 (by omega)
  have v2 : gev none .idx [vl vs, .int q] = some (vec (atV vs q)) := by unfold atV; exact p_vj hq.1 (by omega)
  have c13 : ∀ a b c x y z : Nat, gcall G none 13 [.flt a, .flt b, .flt c, .flt x, .flt y, .flt z] 3 = some [.flt (fsub .f32 a x), .flt (fsub .f32 b y), .flt (fsub .f32 c z)] := fun a b c x y z => gcall_on g13 rfl rfl rfl
  have c15 : ∀ p q : Int, gcall G none 15 [.flt (fsub .f32 (atV vs p).x (atV vs q).x), .flt (fsub .f32 (atV vs p).y (atV vs q).y), .flt (fsub .f32 (atV vs p).z (atV vs q).z)] 1 = some [.flt (lenP vs p q)] := fun p q => by unfold lenP; exact gcall_on g15 rfl rfl rfl
  have c0 : gcall G none 415 [vl vs, tl ts, .int p, .int q] 3 = some (if (atL ts p q).length = 2 then [.int (oneI ts p q), .int (twoI ts p q), .bool (flipQ ts p q)] else [.int 0, .int 0, .bool false]) := gcall_on g415 rfl (F415_m hc) (by split <;> rfl)
  by_cases hf : flipB ts p q = true
  case neg =>
    have hx : ∃ i j : Int, (if (atL ts p q).length = 2 then [D.int (oneI ts p q), D.int (twoI ts p q), D.bool (flipQ ts p q)] else [.int 0, .int 0, .bool false]) = [D.int i, D.int j, D.bool false] := by
      split
      · rename_i h2
        have : flipQ ts p q = false := by
          cases hq : flipQ ts p q with
          | false => rfl
          | true => exact absurd (by unfold flipB; rw [decide_eq_true h2, hq]; rfl) hf
        rw [this]
        exact ⟨_, _, rfl⟩
      · exact ⟨_, _, rfl⟩
    obtain ⟨i, j, hx⟩ := hx
    rw [hx] at c0
    rw [if_neg hf]
    simp only [t_t, p_bnot, Option.bind_some, List.getD_cons_zero, List.getD_cons_succ, Bool.not_false, c0]
  case pos =>
    obtain ⟨h2, hq2⟩ := flipB_two hf
    rw [if_pos h2, hq2] at c0
    rw [if_pos hf]
    obtain ⟨u, v, g, _, _, e1, e2, a1, b1, _, k1, k2, _, _, hC, hE, _, _⟩ := two_facts hv g407 g408 hpq h2
    have i1 : gev none .idx [tl ts, .int (oneI ts p q)] = some (il (ts.getD (oneI ts p q).toNat [])) := by rw [e1]; cases g <;> assumption
    have i2 : gev none .idx [tl ts, .int (twoI ts p q)] = some (il (ts.getD (twoI ts p q).toNat [])) := by rw [e2]; cases g <;> assumption
    have v3 : gev none .idx [vl vs, .int (flC ts p q)] = some (vec (atV vs (flC ts p q))) := by unfold atV; exact p_vj hC.1 (by omega)
    have v4 : gev none .idx [vl vs, .int (flD ts p q)] = some (vec (atV vs (flD ts p q))) := by unfold atV; exact p_vj hE.1 (by omega)
    unfold gnP
    simp only [t_f, p_bnot, p_v0, p_v1, p_v2, p_fsub, Option.bind_some, List.getD_cons_zero, List.getD_cons_succ, Bool.not_true, c0, i1, i2, k1, k2, v1, v2, v3, v4, c13, c15]

set_option maxHeartbeats 4000000 in
theorem run418 {G : Told} (g410 : G 410 = F410) (g417 : G 417 = F417) : ∀ ds rs, F418 ds = some rs → ∃ fuel, run G fuel T418 ds = some (0, rs) := by
  intro ds rs h
  unfold F418 at h
  split at h
  case h_2 => cases h
  rename_i a b p q
  obtain ⟨vs, ha, h⟩ := Option.bind_eq_some_iff.1 h
  obtain ⟨ts, hb, h⟩ := Option.bind_eq_some_iff.1 h
  rw [dV_inv ha, dT_inv hb]
  split at h
  case isFalse => cases h
  rename_i hc
  simp only [Option.some.injEq] at h
  subst h
  clear ha
  clear hb
  refine ⟨0, ?_⟩
  rw [eq418]
  unfold S418
  have c0 : gcall G none 410 [vl vs, tl ts, .int p, .int q] 1 = some [.bool (pairP vs.length ts p q)] := gcall_on g410 rfl (F410_m hc) rfl
  cases hpp : pairP vs.length ts p q with
  | false =>
    rw [hpp] at c0
    simp only [t_t, p_bnot, Option.bind_some, List.getD_cons_zero, Bool.not_false, c0, Bool.false_and, Bool.false_eq_true, if_false]
  | true =>
    rw [hpp] at c0
    simp only [Bool.true_and]
    have hok := pair_ok hpp
    obtain ⟨hv, hp, hq, hpq⟩ := okP_ok hok
    have c1 : gcall G none 417 [vl vs, tl ts, .int p, .int q] 2 = some (if flipB ts p q = true then [.flt (gnP vs ts p q), .bool true] else [.flt 0, .bool false]) := gcall_on g417 rfl (F417_m hok) (by split <;> rfl)
    by_cases hf : flipB ts p q = true
    · rw [if_pos hf] at c1 ⊢
      simp only [t_f, p_bnot, Option.bind_some, List.getD_cons_zero, List.getD_cons_succ, Bool.not_true, c0, c1]
    · rw [if_neg hf] at c1 ⊢
      simp only [t_f, p_bnot, Option.bind_some, List.getD_cons_zero, List.getD_cons_succ, Bool.not_true, c0, c1]

theorem ok_mm {n : Nat} {ts : List (List Int)} {p q : Int} (h : okP n ts p q = true) : okP n ts (min p q) (max p q) = true := by
  obtain ⟨hv, hp, hq, hpq⟩ := okP_ok h
  unfold okP
  simp only [Bool.and_eq_true, inr_iff, bne_iff_ne, ne_eq]
  exact ⟨hv, ⟨by omega, by omega⟩, by omega⟩
theorem flip_mm {n : Nat} {vs : List V3} {ts : List (List Int)} {p q : Int} (h : okP n ts p q = true) : flipB ts (min p q) (max p q) = flipB ts p q ∧ (flipB ts p q = true → gnP vs ts (min p q) (max p q) = gnP vs ts p q) := by
  obtain ⟨hv, hp, hq, hpq⟩ := okP_ok h
  by_cases hle : p ≤ q
  · rw [Int.min_eq_left hle, Int.max_eq_right hle]; exact ⟨rfl, fun _ => rfl⟩
  · rw [Int.min_eq_right (by omega), Int.max_eq_left (by omega)]
    exact ⟨flipB_comm hv hpq, fun hf => gn_comm hv hpq hf⟩
set_option maxHeartbeats 4000000 in
theorem run418s {G : Told} (g410 : G 410 = F410) (g453 : G 453 = F453) (g210 : G 210 = F210m) (g417 : G 417 = F417) : ∀ ds rs, F418 ds = some rs → ∃ fuel, run G fuel T418s ds = some (0, rs) := by
  intro ds rs h
  unfold F418 at h
  split at h
  case h_2 => cases h
  rename_i a b p q
  obtain ⟨vs, ha, h⟩ := Option.bind_eq_some_iff.1 h
  obtain ⟨ts, hb, h⟩ := Option.bind_eq_some_iff.1 h
  rw [dV_inv ha, dT_inv hb]
  split at h
  case isFalse => cases h
  rename_i hc
  simp only [Option.some.injEq] at h
  subst h
  clear ha
  clear hb
  refine ⟨0, ?_⟩
  rw [eq418s]
  unfold S418s
  have c0 : gcall G none 410 [vl vs, tl ts, .int p, .int q] 1 = some [.bool (pairP vs.length ts p q)] := gcall_on g410 rfl (F410_m hc) rfl
  cases hpp : pairP vs.length ts p q with
  | false =>
    rw [hpp] at c0
    simp only [t_t, p_bnot, Option.bind_some, List.getD_cons_zero, Bool.not_false, c0, Bool.false_and, Bool.false_eq_true, if_false]
  | true =>
    rw [hpp] at c0
    simp only [Bool.true_and]
    have hok := pair_ok hpp
    obtain ⟨hv, hp, hq, hpq⟩ := okP_ok hok
    have c1 : gcall G none 417 [vl vs, tl ts, .int (min p q), .int (max p q)] 2 = some (if flipB ts (min p q) (max p q) = true then [.flt (gnP vs ts (min p q) (max p q)), .bool true] else [.flt 0, .bool false]) := gcall_on g417 rfl (F417_m (ok_mm hok)) (by split <;> rfl)
    have k1 : gcall G none 453 [.int p, .int q] 1 = some [.int (min p q)] := gcall_on g453 rfl rfl rfl
    have k2 : gcall G none 210 [.int p, .int q] 1 = some [.int (max p q)] := gcall_on g210 rfl rfl rfl
    obtain ⟨e1, e2⟩ := flip_mm (vs := vs) hok
    rw [e1] at c1
    by_cases hf : flipB ts p q = true
    · rw [if_pos hf, e2 hf] at c1
      rw [if_pos hf]
      simp only [t_f, p_bnot, Option.bind_some, List.getD_cons_zero, List.getD_cons_succ, Bool.not_true, c0, k1, k2, c1]
    · rw [if_neg hf] at c1 ⊢
      simp only [t_f, p_bnot, Option.bind_some, List.getD_cons_zero, List.getD_cons_succ, Bool.not_true, c0, k1, k2, c1]

end Vs
