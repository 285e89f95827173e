/-
  CanJoin and JoinEdge, and their laws.
-/
import Derived.Test.YtaakjnkllodchaaGreatK36
set_option maxHeartbeats 4000000
namespace Vs
open Go Go.Sort
theorem totL_allj {ts : List (List Int)} (h : ∀ u ∈ ts, u.length = 3) : totL ts = 3 * ts.length := by
 unfold totL
 induction ts with
 | nil => rfl
 | cons t ts ih =>
  rw [List.map_cons, List.sum_cons, ih (fun u hu => h u (List.mem_cons_of_mem _ hu)), h t List.mem_cons_self, List.length_cons]
  omega
attribute [local irreducible] IntKind.wrap il tl vl bo mpD kD edl inr validP sheetP atL edgL okJ pairP joinT joinV twinB eulP

theorem run443 {G : Told} (g410 : G 410 = F410) (g411 : G 411 = F411) (g439 : G 439 = F439) (g403 : G 403 = F403) (g404 : G 404 = F404) (g445 : G 445 = F445) : Runs G F443 T443 := by
 intro ds rs h
 unfold F443 at h
 split at h
 case h_2 => cases h
 rename_i a b p q
 obtain ⟨vs, ha, h⟩ := Option.bind_eq_some_iff.1 h
 obtain ⟨ts, hb, h⟩ := Option.bind_eq_some_iff.1 h
 rw [dV_inv ha, dT_inv hb]
 split at h
 case isFalse => cases h
 rename_i hc
 simp only [Option.some.injEq] at h
 subst h
 clear ha
 clear hb
 refine ⟨0, ?_⟩
 rw [eq443]
 unfold S443
 have cp : gcall G none 410 [vl vs, tl ts, .int p, .int q] 1 = some [.bool (pairP vs.length ts p q)] := gcall_on g410 rfl (F410_m hc) rfl
 cases hpp : pairP vs.length ts p q with
 | false =>
  rw [hpp] at cp;simp only [ev0, List.replicate, cp, Bool.false_and]
 | true =>
 rw [hpp] at cp
 have hok := pair_ok hpp
 rw [Bool.true_and]
 obtain ⟨hv, hp, hq, hpq⟩ := okP_ok hok
 obtain ⟨hn, h128⟩ := valid_len hv
 have c1 : gcall G none 411 [vl vs, tl ts, il [p, q]] 1 = some [il (atL ts p q)] := gcall_on g411 rfl (F411_m (valid64 hv)) rfl
 have hll := len_il (l := atL ts p q)
 have h0 := eql0 (atL ts p q).length
 have c2 : gcall G none 439 [vl vs, tl ts, .int p, .int q] 2 = some [vl (joinV vs q), tl (joinT ts p q)] := gcall_on g439 rfl (F439_m hok) rfl
 have hjv := valid_join hv hp hq hpq
 have hjl := joinV_len (vs := vs) hq
 have hjt := join_len ts p q
 have hlj := len_tl (l := joinT ts p q)
 have hz := eql0 (joinT ts p q).length
 have hsz : szM (joinV vs q) (joinT ts p q) ≤ 1048576 := by unfold szM;rw [totL_allj (tri3 hjv), hjl];omega
 have cs : gcall G none 403 [vl (joinV vs q), tl (joinT ts p q)] 1 = some [.bool (sheetP (joinT ts p q))] := gcall_on g403 rfl (by rw [F403_m hsz, hjl, hjv, Bool.true_and]) rfl
 have ct : gcall G none 404 [vl (joinV vs q), tl (joinT ts p q)] 1 = some [.bool (twinB (joinT ts p q))] := gcall_on g404 rfl (F404_m (valid64 hjv)) rfl
 have cu : gcall G none 445 [vl (joinV vs q), tl (joinT ts p q)] 2 = some [.int (eulP (vs.length - 1) (joinT ts p q)), .bool true] := gcall_on g445 rfl (by rw [F445_m hsz, hjl, if_pos hjv]) rfl
 have cv : gcall G none 445 [vl vs, tl ts] 2 = some [.int (eulP vs.length ts), .bool true] := gcall_on g445 rfl (by rw [F445_m hc, if_pos hv]) rfl
 rw [okJ_eq, BEq.comm (a := eulP (vs.length - 1) (joinT ts p q))]
 generalize decide ((atL ts p q).length = 0) = b0 at *
 generalize decide ((joinT ts p q).length = 0) = bz at *
 generalize sheetP (joinT ts p q) = bs at *
 generalize twinB (joinT ts p q) = bt at *
 cases b0 with
 | true => simp only [ev0, cp, c1, hll, h0, c2, hlj, hz, cu, cv, p_il2, Bool.false_and]
 | false =>
 cases bz with
 | true => simp only [ev0, List.replicate, cp, c1, hll, h0, c2, hlj, hz, cu, cv, p_il2, Bool.false_and, Bool.true_and]
 | false =>
 cases bs with
 | false => simp only [ev0, List.replicate, cp, c1, hll, h0, c2, hlj, hz, cs, cu, cv, p_il2, Bool.false_and, Bool.true_and]
 | true =>
 cases bt with
 | true => simp only [ev0, cp, c1, hll, h0, c2, hlj, hz, cs, ct, cu, cv, p_il2, Bool.false_and, Bool.true_and]
 | false => simp only [ev0, cp, c1, hll, h0, c2, hlj, hz, cs, ct, cu, cv, p_il2, Bool.true_and]
theorem run444 {G : Told} (g443 : G 443 = F443) (g439 : G 439 = F439) : Runs G F444 T444 := by
 intro ds rs h
 unfold F444 at h
 split at h
 case h_2 => cases h
 rename_i a b p q
 obtain ⟨vs, ha, h⟩ := Option.bind_eq_some_iff.1 h
 obtain ⟨ts, hb, h⟩ := Option.bind_eq_some_iff.1 h
 rw [dV_inv ha, dT_inv hb]
 split at h
 case isFalse => cases h
 rename_i hc
 simp only [Option.some.injEq] at h
 subst h
 clear ha
 clear hb
 refine ⟨0, ?_⟩
 rw [eq444]
 unfold S444
 have c0 : gcall G none 443 [vl vs, tl ts, .int p, .int q] 1 = some [.bool (pairP vs.length ts p q && okJ vs.length ts p q)] := gcall_on g443 rfl (F443_m hc) rfl
 cases hpp : (pairP vs.length ts p q && okJ vs.length ts p q) with
 | false =>
  rw [hpp] at c0;rw [if_neg (by simp), ← vlnil, ← tlnil]
  simp only [ev0, c0]
 | true =>
  rw [hpp] at c0;rw [if_pos rfl];rw [Bool.and_eq_true] at hpp;have c2 : gcall G none 439 [vl vs, tl ts, .int p, .int q] 2 = some [vl (joinV vs q), tl (joinT ts p q)] := gcall_on g439 rfl (F439_m (pair_ok hpp.1)) rfl;simp only [ev0, c0, c2]
attribute [local irreducible] tif tjoin feq fadd fmul fsub fdiv fgt i2f wide totL szM triP

end Vs
