/-
  CanJoin and JoinEdge, and their laws.
-/
import Derived.Test.YtflfikfcbohddaaK36
namespace Vs
open Go Go.Sort
theorem totL_allj {ts : List (List Int)} (h : ∀ u ∈ ts, u.length = 3) : totL ts = 3 * ts.length := by
 unfold totL
 induction ts with
 | nil => rfl
 | cons t ts ih =>
  rw [List.map_cons, List.sum_cons, ih (fun u hu => h u (List.mem_cons_of_mem _ hu)), h t List.mem_cons_self, List.length_cons]
  omega
attribute [local irreducible] IntKind.wrap il tl vl bo mpD kD edl inr validP sheetP atL edgL okJ pairP joinT joinV twinB eulP

set_option maxHeartbeats 4000000 in
theorem run444s {G : Told} (g410 : G 410 = F410) (g438 : G 438 = F438) : ∀ ds rs, F444 ds = some rs → ∃ fuel, run G fuel T444s ds = some (0, rs) := by
 intro ds rs h
 unfold F444 at h
 split at h
 case h_2 => cases h
 rename_i a b p q
 obtain ⟨vs, ha, h⟩ := Option.bind_eq_some_iff.1 h
 obtain ⟨ts, hb, h⟩ := Option.bind_eq_some_iff.1 h
 rw [dV_inv ha, dT_inv hb]
 split at h
 case isFalse => cases h
 rename_i hc
 simp only [Option.some.injEq] at h
 subst h
 clear ha
 clear hb
 refine ⟨0, ?_⟩
 rw [eq444s]
 unfold S444s
 have cp : gcall G none 410 [vl vs, tl ts, .int p, .int q] 1 = some [.bool (pairP vs.length ts p q)] := gcall_on g410 rfl (F410_m hc) rfl
 cases hpp : pairP vs.length ts p q with
 | false =>
  rw [hpp] at cp
  rw [if_neg (by simp), ← vlnil, ← tlnil]
  simp only [t_t, p_bnot, Option.bind_some, List.getD_cons_zero, Bool.not_false, cp]
 | true =>
 rw [hpp] at cp
 have hok := pair_ok hpp
 rw [Bool.true_and]
 have cm : gcall G none 438 [vl vs, tl ts, .int p, .int q] 3 = some (if okJ vs.length ts p q = true then [vl (joinV vs q), tl (joinT ts p q), .bool true] else [vl [], tl [], .bool false]) := gcall_on g438 rfl (F438_m hok) (by split <;> rfl)
 cases hj : okJ vs.length ts p q with
 | false =>
  rw [hj, if_neg (by simp)] at cm
  rw [if_neg (by simp)]
  simp only [t_f, p_bnot, Option.bind_some, List.getD_cons_zero, List.getD_cons_succ, Bool.not_true, cp, cm]
 | true =>
  rw [hj, if_pos rfl] at cm
  rw [if_pos rfl]
  simp only [t_f, p_bnot, Option.bind_some, List.getD_cons_zero, List.getD_cons_succ, Bool.not_true, cp, cm]
set_option maxHeartbeats 4000000 in
theorem run443 {G : Told} (g410 : G 410 = F410) (g411 : G 411 = F411) (g439 : G 439 = F439) (g403 : G 403 = F403) (g404 : G 404 = F404) (g445 : G 445 = F445) : ∀ ds rs, F443 ds = some rs → ∃ fuel, run G fuel T443 ds = some (0, rs) := by
 intro ds rs h
 unfold F443 at h
 split at h
 case h_2 => cases h
 rename_i a b p q
 obtain ⟨vs, ha, h⟩ := Option.bind_eq_some_iff.1 h
 obtain ⟨ts, hb, h⟩ := Option.bind_eq_some_iff.1 h
 rw [dV_inv ha, dT_inv hb]
 split at h
 case isFalse => cases h
 rename_i hc
 simp only [Option.some.injEq] at h
 subst h
 clear ha
 clear hb
 refine ⟨0, ?_⟩
 rw [eq443]
 unfold S443
 have cp : gcall G none 410 [vl vs, tl ts, .int p, .int q] 1 = some [.bool (pairP vs.length ts p q)] := gcall_on g410 rfl (F410_m hc) rfl
 cases hpp : pairP vs.length ts p q with
 | false =>
  rw [hpp] at cp
  simp only [g_tf, c_tf, t_t, p_pt, p_bnot, Option.bind_some, List.getD_cons_zero, List.replicate, Bool.not_false, cp, Bool.false_and]
 | true =>
 rw [hpp] at cp
 have hok := pair_ok hpp
 rw [Bool.true_and]
 obtain ⟨hv, hp, hq, hpq⟩ := okP_ok hok
 obtain ⟨hn, h128⟩ := valid_len hv
 have c1 : gcall G none 411 [vl vs, tl ts, il [p, q]] 1 = some [il (atL ts p q)] := gcall_on g411 rfl (F411_m (valid64 hv)) rfl
 have hll := len_il (l := atL ts p q)
 have h0 := eql0 (atL ts p q).length
 have c2 : gcall G none 439 [vl vs, tl ts, .int p, .int q] 2 = some [vl (joinV vs q), tl (joinT ts p q)] := gcall_on g439 rfl (F439_m hok) rfl
 have hjv := valid_join hv hp hq hpq
 have hjl := joinV_len (vs := vs) hq
 have hjt := join_len ts p q
 have hlj := len_tl (l := joinT ts p q)
 have hz := eql0 (joinT ts p q).length
 have hsz : szM (joinV vs q) (joinT ts p q) ≤ 1048576 := by
  unfold szM
  rw [totL_allj (tri3 hjv), hjl]
  omega
 have cs : gcall G none 403 [vl (joinV vs q), tl (joinT ts p q)] 1 = some [.bool (sheetP (joinT ts p q))] := gcall_on g403 rfl (by rw [F403_m hsz, hjl, hjv, Bool.true_and]) rfl
 have ct : gcall G none 404 [vl (joinV vs q), tl (joinT ts p q)] 1 = some [.bool (twinB (joinT ts p q))] := gcall_on g404 rfl (F404_m (valid64 hjv)) rfl
 have cu : gcall G none 445 [vl (joinV vs q), tl (joinT ts p q)] 2 = some [.int (eulP (vs.length - 1) (joinT ts p q)), .bool true] := gcall_on g445 rfl (by rw [F445_m hsz, hjl, if_pos hjv]) rfl
 have cv : gcall G none 445 [vl vs, tl ts] 2 = some [.int (eulP vs.length ts), .bool true] := gcall_on g445 rfl (by rw [F445_m hc, if_pos hv]) rfl
 rw [okJ_eq, BEq.comm (a := eulP (vs.length - 1) (joinT ts p q))]
 generalize decide ((atL ts p q).length = 0) = b0 at *
 generalize decide ((joinT ts p q).length = 0) = bz at *
 generalize sheetP (joinT ts p q) = bs at *
 generalize twinB (joinT ts p q) = bt at *
 cases b0 with
 | true => simp only [g_ff, c_ff, t_t, p_id, p_eql, p_pf, p_bnot, Option.bind_some, List.getD_cons_zero, List.getD_cons_succ, Bool.not_true, cp, c1, hll, h0, c2, hlj, hz, cu, cv, p_il2, Bool.not_true, Bool.false_and]
 | false =>
 cases bz with
 | true => simp only [g_ff, g_tf, c_ff, c_tf, t_t, t_f, p_id, p_eql, p_pt, p_pf, p_bnot, Option.bind_some, List.getD_cons_zero, List.getD_cons_succ, List.replicate, Bool.not_true, Bool.not_false, cp, c1, hll, h0, c2, hlj, hz, cu, cv, p_il2, Bool.not_true, Bool.not_false, Bool.false_and, Bool.true_and]
 | false =>
 cases bs with
 | false => simp only [g_ff, c_ff, c_tf, t_t, t_f, p_id, p_eql, p_pt, p_pf, p_bnot, Option.bind_some, List.getD_cons_zero, List.getD_cons_succ, List.replicate, Bool.not_true, Bool.not_false, cp, c1, hll, h0, c2, hlj, hz, cs, cu, cv, p_il2, Bool.not_true, Bool.not_false, Bool.false_and, Bool.true_and]
 | true =>
 cases bt with
 | true => simp only [g_ff, c_ff, t_t, t_f, p_id, p_eql, p_pf, p_bnot, Option.bind_some, List.getD_cons_zero, List.getD_cons_succ, Bool.not_true, Bool.not_false, cp, c1, hll, h0, c2, hlj, hz, cs, ct, cu, cv, p_il2, Bool.not_true, Bool.not_false, Bool.false_and, Bool.true_and]
 | false => simp only [g_ff, c_ff, t_f, p_id, p_eql, p_pf, p_bnot, Option.bind_some, List.getD_cons_zero, List.getD_cons_succ, Bool.not_true, Bool.not_false, cp, c1, hll, h0, c2, hlj, hz, cs, ct, cu, cv, p_il2, Bool.not_true, Bool.not_false, Bool.true_and]
set_option maxHeartbeats 4000000 in
theorem run444 {G : Told} (g443 : G 443 = F443) (g439 : G 439 = F439) : ∀ ds rs, F444 ds = some rs → ∃ fuel, run G fuel T444 ds = some (0, rs) := by
 intro ds rs h
 unfold F444 at h
 split at h
 case h_2 => cases h
 rename_i a b p q
 obtain ⟨vs, ha, h⟩ := Option.bind_eq_some_iff.1 h
 obtain ⟨ts, hb, h⟩ := Option.bind_eq_some_iff.1 h
 rw [dV_inv ha, dT_inv hb]
 split at h
 case isFalse => cases h
 rename_i hc
 simp only [Option.some.injEq] at h
 subst h
 clear ha
 clear hb
 refine ⟨0, ?_⟩
 rw [eq444]
 unfold S444
 have c0 : gcall G none 443 [vl vs, tl ts, .int p, .int q] 1 = some [.bool (pairP vs.length ts p q && okJ vs.length ts p q)] := gcall_on g443 rfl (F443_m hc) rfl
 cases hpp : (pairP vs.length ts p q && okJ vs.length ts p q) with
 | false =>
  rw [hpp] at c0
  rw [if_neg (by simp), ← vlnil, ← tlnil]
  simp only [t_t, p_bnot, Option.bind_some, List.getD_cons_zero, Bool.not_false, c0]
 | true =>
  rw [hpp] at c0
  rw [if_pos rfl]
  rw [Bool.and_eq_true] at hpp
  have c2 : gcall G none 439 [vl vs, tl ts, .int p, .int q] 2 = some [vl (joinV vs q), tl (joinT ts p q)] := gcall_on g439 rfl (F439_m (pair_ok hpp.1)) rfl
  simp only [t_f, p_bnot, Option.bind_some, List.getD_cons_zero, List.getD_cons_succ, Bool.not_true, c0, c2]
attribute [local irreducible] tif tjoin feq fadd fmul fsub fdiv fgt i2f sameP wide eqV totL szM szP marksV marksT triP

set_option maxHeartbeats 4000000 in
theorem run468 {G : Told} (g142 : G 142 = F142) (g145 : G 145 = F145) (g146 : G 146 = F146) (g147 : G 147 = F147) (g148 : G 148 = F148) (g444 : G 444 = F444) : ∀ ds rs, F468 ds = some rs → ∃ fuel, run G fuel T468 ds = some (0, rs) := by
 intro ds rs h
 unfold F468 at h
 split at h
 case h_2 => cases h
 rename_i a b p q
 obtain ⟨vs, ha, h⟩ := Option.bind_eq_some_iff.1 h
 obtain ⟨ts, hb, h⟩ := Option.bind_eq_some_iff.1 h
 rw [dV_inv ha, dT_inv hb]
 split at h
 case isFalse => cases h
 rename_i hc
 simp only [Option.some.injEq] at h
 subst h
 clear ha
 clear hb
 refine ⟨0, ?_⟩
 rw [eq468]
 unfold S468
 have z1 := F142_m hc
 by_cases hsz : szM vs ts ≤ 1048576
 case neg =>
  rw [szP_neg hsz] at z1
  repeat' first
   | with_reducible refine st_ift ?_
   | with_reducible refine st_iff ?_
   | ((with_reducible apply st_ift4); exact rfl)
   | ((with_reducible apply st_iff4); exact rfl)
   | ((with_reducible apply st_call); exact g142; exact rfl; exact z1; exact rfl)
   | ((with_reducible apply st_callt); assumption; exact rfl; exact rfl; assumption)
   | ((with_reducible apply st_callf); assumption; exact rfl; exact rfl; assumption)
   | ((with_reducible apply st_call); assumption; exact rfl; exact rfl; exact rfl)
   | ((with_reducible apply st_wide); exact rfl; exact rfl)
   | ((with_reducible apply st_skip); exact rfl)
   | ((with_reducible apply st_t); exact rfl; exact rfl)
   | ((with_reducible apply st_f); exact rfl; exact rfl)
   | ((with_reducible apply st_t); exact rfl; assumption)
   | ((with_reducible apply st_f); exact rfl; assumption)
   | ((with_reducible apply st_some); exact rfl)
   | exact rfl
 rw [szP_pos hsz] at z1
 have d1 : decide ((1048576 : Int) - (szM vs ts : Nat) < 0) = false := by simp; omega
 have hz : szM vs ts = vs.length + ts.length + totL ts := by unfold szM; rfl
 have t1 := F145_m hsz
 have q1 := F146_m hsz
 have m1 := F147_m (m := 1) hsz (by omega) (by omega)
 have d3 : decide ((1 : Int) + 3 * vs.length + totL ts < 0) = false := by simp; omega
 have hr : ∃ us ss b, F444 [vl vs, tl ts, .int p, .int q] = some [vl us, tl ss, .bool b] ∧ szM us ss ≤ 1048576 := by
  rw [F444_m hsz]
  split
  ·rename_i hf
   rw [Bool.and_eq_true] at hf
   obtain ⟨hv, hp, hq, hpq⟩ := okP_ok (pair_ok hf.1)
   refine ⟨_, _, _, rfl, ?_⟩
   have hjv := valid_join hv hp hq hpq
   have hjl := joinV_len (vs := vs) hq
   have hjt := join_len ts p q
   obtain ⟨hn, h128⟩ := valid_len hv
   unfold szM
   rw [totL_allj (tri3 hjv), hjl]
   omega
  ·exact ⟨_, _, _, rfl, by unfold szM totL; simp⟩
 obtain ⟨us, ss, b, hr, hu⟩ := hr
 have hzu : szM us ss = us.length + ss.length + totL ss := by unfold szM; rfl
 have q3 := F146_m hu
 have m3 := F147_m (m := 1) hu (by omega) (by omega)
 have n3 := F148_m (m := 1) hu (by omega) (by omega)
 have d4 : decide ((1 : Int) + 3 * us.length + totL ss < 0) = false := by simp; omega
 have d5 : ((1 : Int) + 3 * us.length + totL ss != 1 + 3 * us.length + totL ss) = false := by simp
 cases b
 ·repeat' first
   | with_reducible refine st_ift ?_
   | with_reducible refine st_iff ?_
   | ((with_reducible apply st_ift4); exact rfl)
   | ((with_reducible apply st_iff4); exact rfl)
   | ((with_reducible apply st_call); exact g142; exact rfl; exact z1; exact rfl)
   | ((with_reducible apply st_call); exact g444; exact rfl; exact hr; exact rfl)
   | ((with_reducible apply st_call); exact g145; exact rfl; exact t1; exact rfl)
   | ((with_reducible apply st_call); exact g146; exact rfl; exact q1; exact rfl)
   | ((with_reducible apply st_call); exact g146; exact rfl; exact q3; exact rfl)
   | ((with_reducible apply st_call); exact g147; exact rfl; exact m1; exact rfl)
   | ((with_reducible apply st_call); exact g147; exact rfl; exact m3; exact rfl)
   | ((with_reducible apply st_call); exact g148; exact rfl; exact n3; exact rfl)
   | ((with_reducible apply st_callt); assumption; exact rfl; exact rfl; assumption)
   | ((with_reducible apply st_callf); assumption; exact rfl; exact rfl; assumption)
   | ((with_reducible apply st_call); assumption; exact rfl; exact rfl; exact rfl)
   | ((with_reducible apply st_wide); exact rfl; exact rfl)
   | ((with_reducible apply st_skip); exact rfl)
   | ((with_reducible apply st_t); exact rfl; exact rfl)
   | ((with_reducible apply st_f); exact rfl; exact rfl)
   | ((with_reducible apply st_t); exact rfl; assumption)
   | ((with_reducible apply st_f); exact rfl; assumption)
   | ((with_reducible apply st_some); exact rfl)
   | exact rfl
 ·repeat' first
   | with_reducible refine st_ift ?_
   | with_reducible refine st_iff ?_
   | ((with_reducible apply st_ift4); exact rfl)
   | ((with_reducible apply st_iff4); exact rfl)
   | ((with_reducible apply st_call); exact g142; exact rfl; exact z1; exact rfl)
   | ((with_reducible apply st_call); exact g444; exact rfl; exact hr; exact rfl)
   | ((with_reducible apply st_call); exact g145; exact rfl; exact t1; exact rfl)
   | ((with_reducible apply st_call); exact g146; exact rfl; exact q1; exact rfl)
   | ((with_reducible apply st_call); exact g146; exact rfl; exact q3; exact rfl)
   | ((with_reducible apply st_call); exact g147; exact rfl; exact m1; exact rfl)
   | ((with_reducible apply st_call); exact g147; exact rfl; exact m3; exact rfl)
   | ((with_reducible apply st_call); exact g148; exact rfl; exact n3; exact rfl)
   | ((with_reducible apply st_callt); assumption; exact rfl; exact rfl; assumption)
   | ((with_reducible apply st_callf); assumption; exact rfl; exact rfl; assumption)
   | ((with_reducible apply st_call); assumption; exact rfl; exact rfl; exact rfl)
   | ((with_reducible apply st_wide); exact rfl; exact rfl)
   | ((with_reducible apply st_skip); exact rfl)
   | ((with_reducible apply st_t); exact rfl; exact rfl)
   | ((with_reducible apply st_f); exact rfl; exact rfl)
   | ((with_reducible apply st_t); exact rfl; assumption)
   | ((with_reducible apply st_f); exact rfl; assumption)
   | ((with_reducible apply st_some); exact rfl)
   | exact rfl
end Vs
