/-
  Flips of edges, what is gained by them, and the laws CanFlip, FlipGain, FlipEdge.
-/
import Derived.Test.YtflfikfcbohddaaK28
import Derived.Test.YtflfikfcbohddaaMq1
namespace Vs
open Go Go.Sort

attribute [local irreducible] IntKind.wrap il tl vl bo mpD kD inr validP sheetP fsub flC flD oneI twoI pairP flipQ atL

set_option maxHeartbeats 4000000 in
theorem run419 {G : Told} (g410 : G 410 = F410) (g406 : G 406 = F406) : ∀ ds rs, F419 ds = some rs → ∃ fuel, run G fuel T419 ds = some (0, rs) := by
  intro ds rs h
  unfold F419 at h
  split at h
  case h_2 => cases h
  rename_i a b p q
  obtain ⟨vs, ha, h⟩ := Option.bind_eq_some_iff.1 h
  obtain ⟨ts, hb, h⟩ := Option.bind_eq_some_iff.1 h
  rw [dV_inv ha, dT_inv hb]
  split at h
  case isFalse => cases h
  rename_i hc
  simp only [Option.some.injEq] at h
  subst h
  clear ha
  clear hb
  refine ⟨0, ?_⟩
  rw [eq419]
  unfold S419
  have c0 : gcall G none 410 [vl vs, tl ts, .int p, .int q] 1 = some [.bool (pairP vs.length ts p q)] := gcall_on g410 rfl (F410_m hc) rfl
  cases hpp : pairP vs.length ts p q with
  | false =>
    rw [hpp] at c0
    simp only [t_t, p_bnot, Option.bind_some, List.getD_cons_zero, Bool.not_false, c0, Bool.false_and]
  | true =>
    rw [hpp] at c0
    simp only [Bool.true_and]
    have hok := pair_ok hpp
    obtain ⟨hv, hp, hq, hpq⟩ := okP_ok hok
    have c1 : gcall G none 406 [vl vs, tl ts, .int p, .int q] 5 = some (if flipB ts p q = true then [.int (oneI ts p q), .int (twoI ts p q), .int (flC ts p q), .int (flD ts p q), .bool true] else [.int 0, .int 0, .int 0, .int 0, .bool false]) := gcall_on g406 rfl (F406_m hok) (by split <;> rfl)
    cases hf : flipB ts p q with
    | true =>
      rw [if_pos hf] at c1
      simp only [t_f, p_bnot, Option.bind_some, List.getD_cons_zero, List.getD_cons_succ, Bool.not_true, c0, c1]
    | false =>
      rw [if_neg (by rw [hf]; simp)] at c1
      simp only [t_f, p_bnot, Option.bind_some, List.getD_cons_zero, List.getD_cons_succ, Bool.not_true, c0, c1]

set_option maxHeartbeats 4000000 in
theorem run419s {G : Told} (g410 : G 410 = F410) (g415 : G 415 = F415) : ∀ ds rs, F419 ds = some rs → ∃ fuel, run G fuel T419s ds = some (0, rs) := by
  intro ds rs h
  unfold F419 at h
  split at h
  case h_2 => cases h
  rename_i a b p q
  obtain ⟨vs, ha, h⟩ := Option.bind_eq_some_iff.1 h
  obtain ⟨ts, hb, h⟩ := Option.bind_eq_some_iff.1 h
  rw [dV_inv ha, dT_inv hb]
  split at h
  case isFalse => cases h
  rename_i hc
  simp only [Option.some.injEq] at h
  subst h
  clear ha
  clear hb
  refine ⟨0, ?_⟩
  rw [eq419s]
  unfold S419s
  have c0 : gcall G none 410 [vl vs, tl ts, .int p, .int q] 1 = some [.bool (pairP vs.length ts p q)] := gcall_on g410 rfl (F410_m hc) rfl
  cases hpp : pairP vs.length ts p q with
  | false =>
    rw [hpp] at c0
    simp only [t_t, p_bnot, Option.bind_some, List.getD_cons_zero, Bool.not_false, c0, Bool.false_and]
  | true =>
    rw [hpp] at c0
    simp only [Bool.true_and]
    have hok := pair_ok hpp
    obtain ⟨hv, hp, hq, hpq⟩ := okP_ok hok
    have c1 : gcall G none 415 [vl vs, tl ts, .int p, .int q] 3 = some (if (atL ts p q).length = 2 then [.int (oneI ts p q), .int (twoI ts p q), .bool (flipQ ts p q)] else [.int 0, .int 0, .bool false]) := gcall_on g415 rfl (F415_m hok) (by split <;> rfl)
    unfold flipB
    by_cases h2 : (atL ts p q).length = 2
    · rw [if_pos h2] at c1
      rw [decide_eq_true h2, Bool.true_and]
      simp only [t_f, p_bnot, Option.bind_some, List.getD_cons_zero, List.getD_cons_succ, Bool.not_true, c0, c1]
    · rw [if_neg h2] at c1
      rw [decide_eq_false h2, Bool.false_and]
      simp only [t_f, p_bnot, Option.bind_some, List.getD_cons_zero, List.getD_cons_succ, Bool.not_true, c0, c1]

end Vs
