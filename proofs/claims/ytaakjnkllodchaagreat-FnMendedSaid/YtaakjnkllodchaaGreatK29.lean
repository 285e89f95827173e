/-
  Flips of edges, what is gained by them, and the laws CanFlip, FlipGain, FlipEdge.
-/
import Derived.Test.YtaakjnkllodchaaGreatK28
import Derived.Test.YtaakjnkllodchaaGreatMf4
set_option maxHeartbeats 4000000
namespace Vs
open Go Go.Sort
theorem flipB_two {ts : List (List Int)} {p q : Int} (h : flipB ts p q = true) : (atL ts p q).length = 2 ∧ flipQ ts p q = true := by
 unfold flipB at h
 simpa using h
theorem flipT_len (ts : List (List Int)) (p q : Int) : (flipT ts p q).length = ts.length := by simp [flipT]
theorem tri3 {n : Nat} {ts : List (List Int)} (hv : validP n ts = true) : ∀ u ∈ ts, u.length = 3 := fun u hu => by
 obtain ⟨x, y, z, rfl, _⟩ := triOk_of hv u hu
 rfl
attribute [local irreducible] IntKind.wrap il tl vl bo mpD kD inr validP sheetP longP fsub lenP atV flC flD oneI twoI pairP flipQ atL

theorem run417 {G : Told} (g406 : G 406 = F406) (g407 : G 407 = F407) (g408 : G 408 = F408) (g13 : G 13 = F13) (g15 : G 15 = F15) : Runs G F417 T417 := by
 intro ds rs h
 unfold F417 at h
 split at h
 case h_2 => cases h
 rename_i a b p q
 obtain ⟨vs, ha, h⟩ := Option.bind_eq_some_iff.1 h
 obtain ⟨ts, hb, h⟩ := Option.bind_eq_some_iff.1 h
 rw [dV_inv ha, dT_inv hb]
 split at h
 case isFalse => cases h
 rename_i hc
 simp only [Option.some.injEq] at h
 subst h
 clear ha
 clear hb
 obtain ⟨hv, hp, hq, hpq⟩ := okP_ok hc
 refine ⟨0, ?_⟩
 rw [eq417]
 unfold S417
 have v1 : gev none .idx [vl vs, .int p] = some (vec (atV vs p)) := by unfold atV; exact p_vj hp.1 (by omega)
 have v2 : gev none .idx [vl vs, .int q] = some (vec (atV vs q)) := by unfold atV; exact p_vj hq.1 (by omega)
 have c13 : ∀ a b c x y z : Nat, gcall G none 13 [.flt a, .flt b, .flt c, .flt x, .flt y, .flt z] 3 = some [.flt (fsub .f32 a x), .flt (fsub .f32 b y), .flt (fsub .f32 c z)] := fun a b c x y z => gcall_on g13 rfl rfl rfl
 have c15 : ∀ p q : Int, gcall G none 15 [.flt (fsub .f32 (atV vs p).x (atV vs q).x), .flt (fsub .f32 (atV vs p).y (atV vs q).y), .flt (fsub .f32 (atV vs p).z (atV vs q).z)] 1 = some [.flt (lenP vs p q)] := fun p q => by unfold lenP; exact gcall_on g15 rfl rfl rfl
 have c0 : gcall G none 406 [vl vs, tl ts, .int p, .int q] 5 = some (if flipB ts p q = true then [.int (oneI ts p q), .int (twoI ts p q), .int (flC ts p q), .int (flD ts p q), .bool true] else [.int 0, .int 0, .int 0, .int 0, .bool false]) := gcall_on g406 rfl (F406_m hc) (by split <;> rfl)
 by_cases hf : flipB ts p q = true
 case neg =>
  rw [if_neg hf] at c0 ⊢;simp only [ev0, c0]
 case pos =>
  rw [if_pos hf] at c0 ⊢;obtain ⟨_, _, _, _, _, _, _, _, _, _, _, _, _, _, hC, hE, _, _⟩ := two_facts hv g407 g408 hpq (flipB_two hf).1;have v3 : gev none .idx [vl vs, .int (flC ts p q)] = some (vec (atV vs (flC ts p q))) := by unfold atV; exact p_vj hC.1 (by omega)
  have v4 : gev none .idx [vl vs, .int (flD ts p q)] = some (vec (atV vs (flD ts p q))) := by unfold atV; exact p_vj hE.1 (by omega)
  unfold gnP;simp only [ev0, p_v0, p_v1, p_v2, p_fsub, c0, v1, v2, v3, v4, c13, c15]
theorem run419 {G : Told} (g410 : G 410 = F410) (g406 : G 406 = F406) : Runs G F419 T419 := by
 intro ds rs h
 unfold F419 at h
 split at h
 case h_2 => cases h
 rename_i a b p q
 obtain ⟨vs, ha, h⟩ := Option.bind_eq_some_iff.1 h
 obtain ⟨ts, hb, h⟩ := Option.bind_eq_some_iff.1 h
 rw [dV_inv ha, dT_inv hb]
 split at h
 case isFalse => cases h
 rename_i hc
 simp only [Option.some.injEq] at h
 subst h
 clear ha
 clear hb
 refine ⟨0, ?_⟩
 rw [eq419]
 unfold S419
 have c0 : gcall G none 410 [vl vs, tl ts, .int p, .int q] 1 = some [.bool (pairP vs.length ts p q)] := gcall_on g410 rfl (F410_m hc) rfl
 cases hpp : pairP vs.length ts p q with
 | false =>
  rw [hpp] at c0;simp only [ev0, c0, Bool.false_and]
 | true =>
  rw [hpp] at c0;simp only [Bool.true_and];have hok := pair_ok hpp;obtain ⟨hv, hp, hq, hpq⟩ := okP_ok hok;have c1 : gcall G none 406 [vl vs, tl ts, .int p, .int q] 5 = some (if flipB ts p q = true then [.int (oneI ts p q), .int (twoI ts p q), .int (flC ts p q), .int (flD ts p q), .bool true] else [.int 0, .int 0, .int 0, .int 0, .bool false]) := gcall_on g406 rfl (F406_m hok) (by split <;> rfl)
  cases hf : flipB ts p q with
  | true =>
   rw [if_pos hf] at c1;simp only [ev0, c0, c1]
  | false =>
   rw [if_neg (by rw [hf]; simp)] at c1
   simp only [ev0, c0, c1]
theorem run421 {G : Told} (g419 : G 419 = F419) (g406 : G 406 = F406) (g407 : G 407 = F407) (g408 : G 408 = F408) (g151 : G 151 = F151) : Runs G F421 T421 := by
 intro ds rs h
 unfold F421 at h
 split at h
 case h_2 => cases h
 rename_i a b p q
 obtain ⟨vs, ha, h⟩ := Option.bind_eq_some_iff.1 h
 obtain ⟨ts, hb, h⟩ := Option.bind_eq_some_iff.1 h
 rw [dV_inv ha, dT_inv hb]
 split at h
 case isFalse => cases h
 rename_i hc
 simp only [Option.some.injEq] at h
 subst h
 clear ha
 clear hb
 refine ⟨0, ?_⟩
 rw [eq421]
 unfold S421
 have c0 : gcall G none 419 [vl vs, tl ts, .int p, .int q] 1 = some [.bool (pairP vs.length ts p q && flipB ts p q)] := gcall_on g419 rfl (F419_m hc) rfl
 cases hpp : (pairP vs.length ts p q && flipB ts p q) with
 | false =>
  rw [hpp] at c0;rw [if_neg (by simp), ← vlnil, ← tlnil]
  simp only [ev0, p_lst, c0]
 | true =>
  rw [hpp] at c0;rw [if_pos rfl];rw [Bool.and_eq_true] at hpp;have hok := pair_ok hpp.1;have hf := hpp.2;obtain ⟨hv, hp, hq, hpq⟩ := okP_ok hok;have h2 := (flipB_two hf).1;have c1 : gcall G none 406 [vl vs, tl ts, .int p, .int q] 5 = some (if flipB ts p q = true then [.int (oneI ts p q), .int (twoI ts p q), .int (flC ts p q), .int (flD ts p q), .bool true] else [.int 0, .int 0, .int 0, .int 0, .bool false]) := gcall_on g406 rfl (F406_m hok) (by split <;> rfl)
  rw [if_pos hf] at c1;obtain ⟨u, v, g, huv, _, e1, e2, a1, b1, _, k1, k2, _, _, hC, hE, hu, hv'⟩ := two_facts hv g407 g408 hpq h2;have i1 : gev none .idx [tl ts, .int (oneI ts p q)] = some (il (ts.getD (oneI ts p q).toNat [])) := by rw [e1]; cases g <;> assumption
  have i2 : gev none .idx [tl ts, .int (twoI ts p q)] = some (il (ts.getD (twoI ts p q).toNat [])) := by rw [e2]; cases g <;> assumption
  have hr1 : 0 ≤ oneI ts p q ∧ oneI ts p q < (ts.length : Int) := by rw [e1]; cases g <;> assumption
  have hr2 : 0 ≤ twoI ts p q ∧ twoI ts p q < (ts.length : Int) := by rw [e2]; cases g <;> assumption
  have cc : gcall G none 151 [vl vs, tl ts] 2 = some [vl vs, tl ts] := gcall_on g151 rfl (F145_m hc) rfl;have s1 := p_sj (l := ts) (v := [p, flD ts p q, flC ts p q]) hr1.1 hr1.2;have j2 := p_tj (l := ts.set (oneI ts p q).toNat [p, flD ts p q, flC ts p q]) (j := twoI ts p q) hr2.1 (by rw [List.length_set]; exact hr2.2)
  have s2 := p_sj (l := ts.set (oneI ts p q).toNat [p, flD ts p q, flC ts p q]) (j := twoI ts p q) (v := [flD ts p q, q, flC ts p q]) hr2.1 (by rw [List.length_set]; exact hr2.2)
  unfold flipT;simp only [ev0, c0, c1, cc, p_il3, i1, s1, j2, s2]
end Vs
