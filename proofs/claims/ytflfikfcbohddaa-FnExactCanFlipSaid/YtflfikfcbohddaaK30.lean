/-
  The laws CanFlip, FlipGain, FlipEdge.
-/
import Derived.Test.YtflfikfcbohddaaK29
namespace Vs
open Go Go.Sort

open Classical in
noncomputable def F461 : List D → Option (List D)
  | [a, b, .int _, .int _] => (dV a).bind fun vs => (dT b).bind fun ts => if lawM vs ts then some [.bool true] else none
  | _ => none
def T461 : T :=
(.call none 142 [(.v 0), (.v 1), (.c (.int 1048576))] 1 <|
(.op none (.icm .lss) [(.v 4), (.c (.int 0))] <|
(.ite (.v 5)
  (.out 0 [(.c (.bool true))])
  (.call none 145 [(.v 0), (.v 1)] 2 <|
  (.call none 419 [(.v 6), (.v 7), (.v 2), (.v 3)] 1 <|
  (.call none 145 [(.v 0), (.v 1)] 2 <|
  (.call none 419 [(.v 9), (.v 10), (.v 2), (.v 3)] 1 <|
  (.op none .bne [(.v 11), (.v 8)] <|
  (.ite (.v 12)
    (.out 0 [(.c (.bool false))])
    (.call none 145 [(.v 0), (.v 1)] 2 <|
    (.call none 146 [(.v 9), (.v 10), (.v 13), (.v 14)] 1 <|
    (.op none .bnot [(.v 15)] <|
    (.ite (.v 16)
      (.out 0 [(.c (.bool false))])
      (.out 0 [(.c (.bool true))]))))))))))))))
def S461 (G : Told) (_fuel : Nat) (x0 x1 x2 x3 : D) : Option (Nat × List D) :=
  (gcall G none 142 [x0, x1, (.int 1048576)] 1).bind fun e4 =>
  (gev none (.icm .lss) [(e4.getD 0 .undef), (.int 0)]).bind fun x5 =>
  tif x5 (
    some (0, [(.bool true)])) (
    (gcall G none 145 [x0, x1] 2).bind fun e6 =>
    (gcall G none 419 [(e6.getD 0 .undef), (e6.getD 1 .undef), x2, x3] 1).bind fun e8 =>
    (gcall G none 145 [x0, x1] 2).bind fun e9 =>
    (gcall G none 419 [(e9.getD 0 .undef), (e9.getD 1 .undef), x2, x3] 1).bind fun e11 =>
    (gev none .bne [(e11.getD 0 .undef), (e8.getD 0 .undef)]).bind fun x12 =>
    tif x12 (
      some (0, [(.bool false)])) (
      (gcall G none 145 [x0, x1] 2).bind fun e13 =>
      (gcall G none 146 [(e9.getD 0 .undef), (e9.getD 1 .undef), (e13.getD 0 .undef), (e13.getD 1 .undef)] 1).bind fun e15 =>
      (gev none .bnot [(e15.getD 0 .undef)]).bind fun x16 =>
      tif x16 (
        some (0, [(.bool false)])) (
        some (0, [(.bool true)]))))
theorem eq461 {G : Told} {fuel : Nat} (x0 x1 x2 x3 : D) : run G fuel T461 [x0, x1, x2, x3] = S461 G fuel x0 x1 x2 x3 := by
  rw [run_eq]; kernel_rfl

attribute [local irreducible] tif tjoin IntKind.wrap feq fadd fmul fsub fdiv fgt i2f sameP wide eqV vl il tl totL szM szP marksV marksT inr triP validP pairP flipB

set_option maxHeartbeats 4000000 in
theorem run461 {G : Told} (g142 : G 142 = F142) (g145 : G 145 = F145) (g146 : G 146 = F146) (g419 : G 419 = F419) : ∀ ds rs, F461 ds = some rs → ∃ fuel, run G fuel T461 ds = some (0, rs) := by
  intro ds rs h
  unfold F461 at h
  split at h
  case h_2 => cases h
  rename_i a b p q
  obtain ⟨vs, ha, h⟩ := Option.bind_eq_some_iff.1 h
  obtain ⟨ts, hb, h⟩ := Option.bind_eq_some_iff.1 h
  rw [dV_inv ha, dT_inv hb]
  split at h
  case isFalse => cases h
  rename_i hc
  simp only [Option.some.injEq] at h
  subst h
  clear ha
  clear hb
  refine ⟨0, ?_⟩
  rw [eq461]
  unfold S461
  have z1 := F142_m hc
  by_cases hsz : szM vs ts ≤ 1048576
  case neg =>
    rw [szP_neg hsz] at z1
    repeat' first
      | with_reducible refine st_ift ?_
      | with_reducible refine st_iff ?_
      | ((with_reducible apply st_ift4); exact rfl)
      | ((with_reducible apply st_iff4); exact rfl)
      | ((with_reducible apply st_call); exact g142; exact rfl; exact z1; exact rfl)
      | ((with_reducible apply st_callt); assumption; exact rfl; exact rfl; assumption)
      | ((with_reducible apply st_callf); assumption; exact rfl; exact rfl; assumption)
      | ((with_reducible apply st_call); assumption; exact rfl; exact rfl; exact rfl)
      | ((with_reducible apply st_wide); exact rfl; exact rfl)
      | ((with_reducible apply st_skip); exact rfl)
      | ((with_reducible apply st_t); exact rfl; exact rfl)
      | ((with_reducible apply st_f); exact rfl; exact rfl)
      | ((with_reducible apply st_t); exact rfl; assumption)
      | ((with_reducible apply st_f); exact rfl; assumption)
      | ((with_reducible apply st_some); exact rfl)
      | exact rfl
  rw [szP_pos hsz] at z1
  have d1 : decide ((1048576 : Int) - (szM vs ts : Nat) < 0) = false := by simp; omega
  have hz : szM vs ts = vs.length + ts.length + totL ts := by unfold szM; rfl
  have t1 := F145_m hsz
  have q1 := F146_m hsz
  have m1 := F147_m (m := 1) hsz (by omega) (by omega)
  have d3 : decide ((1 : Int) + 3 * vs.length + totL ts < 0) = false := by simp; omega
  have hr : ∃ b, F419 [vl vs, tl ts, .int p, .int q] = some [.bool b] := ⟨_, F419_m hsz⟩
  obtain ⟨b, hr⟩ := hr
  cases b
  · repeat' first
      | with_reducible refine st_ift ?_
      | with_reducible refine st_iff ?_
      | ((with_reducible apply st_ift4); exact rfl)
      | ((with_reducible apply st_iff4); exact rfl)
      | ((with_reducible apply st_call); exact g142; exact rfl; exact z1; exact rfl)
      | ((with_reducible apply st_call); exact g419; exact rfl; exact hr; exact rfl)
      | ((with_reducible apply st_call); exact g145; exact rfl; exact t1; exact rfl)
      | ((with_reducible apply st_call); exact g146; exact rfl; exact q1; exact rfl)
      | ((with_reducible apply st_callt); assumption; exact rfl; exact rfl; assumption)
      | ((with_reducible apply st_callf); assumption; exact rfl; exact rfl; assumption)
      | ((with_reducible apply st_call); assumption; exact rfl; exact rfl; exact rfl)
      | ((with_reducible apply st_wide); exact rfl; exact rfl)
      | ((with_reducible apply st_skip); exact rfl)
      | ((with_reducible apply st_t); exact rfl; exact rfl)
      | ((with_reducible apply st_f); exact rfl; exact rfl)
      | ((with_reducible apply st_t); exact rfl; assumption)
      | ((with_reducible apply st_f); exact rfl; assumption)
      | ((with_reducible apply st_some); exact rfl)
      | exact rfl
  · repeat' first
      | with_reducible refine st_ift ?_
      | with_reducible refine st_iff ?_
      | ((with_reducible apply st_ift4); exact rfl)
      | ((with_reducible apply st_iff4); exact rfl)
      | ((with_reducible apply st_call); exact g142; exact rfl; exact z1; exact rfl)
      | ((with_reducible apply st_call); exact g419; exact rfl; exact hr; exact rfl)
      | ((with_reducible apply st_call); exact g145; exact rfl; exact t1; exact rfl)
      | ((with_reducible apply st_call); exact g146; exact rfl; exact q1; exact rfl)
      | ((with_reducible apply st_callt); assumption; exact rfl; exact rfl; assumption)
      | ((with_reducible apply st_callf); assumption; exact rfl; exact rfl; assumption)
      | ((with_reducible apply st_call); assumption; exact rfl; exact rfl; exact rfl)
      | ((with_reducible apply st_wide); exact rfl; exact rfl)
      | ((with_reducible apply st_skip); exact rfl)
      | ((with_reducible apply st_t); exact rfl; exact rfl)
      | ((with_reducible apply st_f); exact rfl; exact rfl)
      | ((with_reducible apply st_t); exact rfl; assumption)
      | ((with_reducible apply st_f); exact rfl; assumption)
      | ((with_reducible apply st_some); exact rfl)
      | exact rfl

end Vs
