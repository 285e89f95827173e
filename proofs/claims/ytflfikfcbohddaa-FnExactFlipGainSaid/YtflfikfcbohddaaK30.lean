/-
  The laws CanFlip, FlipGain, FlipEdge.
-/
import Derived.Test.YtflfikfcbohddaaK29
namespace Vs
open Go Go.Sort

open Classical in
noncomputable def F464 : List D → Option (List D)
  | [a, b, .int _, .int _] => (dV a).bind fun vs => (dT b).bind fun ts => if lawM vs ts then some [.bool true] else none
  | _ => none
def T464 : T :=
(.call none 142 [(.v 0), (.v 1), (.c (.int 1048576))] 1 <|
(.op none (.icm .lss) [(.v 4), (.c (.int 0))] <|
(.ite (.v 5)
  (.out 0 [(.c (.bool true))])
  (.call none 145 [(.v 0), (.v 1)] 2 <|
  (.call none 418 [(.v 6), (.v 7), (.v 2), (.v 3)] 2 <|
  (.call none 145 [(.v 0), (.v 1)] 2 <|
  (.call none 418 [(.v 10), (.v 11), (.v 2), (.v 3)] 2 <|
  (.op none (.f2f .f32 .f64) [(.v 12)] <|
  (.op none (.f2f .f32 .f64) [(.v 8)] <|
  (.call none 4 [(.v 14), (.v 15)] 1 <|
  (.op none .bnot [(.v 16)] <|
  (.op (some ((.v 17), false)) .id [(.v 13)] <|
  (.op (some ((.v 17), false)) .id [(.v 9)] <|
  (.op (some ((.v 17), false)) .bne [(.v 18), (.v 19)] <|
  (.op none .pick [(.v 17), (.c (.bool true)), (.v 20)] <|
  (.ite (.v 21)
    (.out 0 [(.c (.bool false))])
    (.call none 145 [(.v 0), (.v 1)] 2 <|
    (.call none 146 [(.v 10), (.v 11), (.v 22), (.v 23)] 1 <|
    (.op none .bnot [(.v 24)] <|
    (.ite (.v 25)
      (.out 0 [(.c (.bool false))])
      (.out 0 [(.c (.bool true))])))))))))))))))))))))
def S464 (G : Told) (_fuel : Nat) (x0 x1 x2 x3 : D) : Option (Nat × List D) :=
  (gcall G none 142 [x0, x1, (.int 1048576)] 1).bind fun e4 =>
  (gev none (.icm .lss) [(e4.getD 0 .undef), (.int 0)]).bind fun x5 =>
  tif x5 (
    some (0, [(.bool true)])) (
    (gcall G none 145 [x0, x1] 2).bind fun e6 =>
    (gcall G none 418 [(e6.getD 0 .undef), (e6.getD 1 .undef), x2, x3] 2).bind fun e8 =>
    (gcall G none 145 [x0, x1] 2).bind fun e10 =>
    (gcall G none 418 [(e10.getD 0 .undef), (e10.getD 1 .undef), x2, x3] 2).bind fun e12 =>
    (gev none (.f2f .f32 .f64) [(e12.getD 0 .undef)]).bind fun x14 =>
    (gev none (.f2f .f32 .f64) [(e8.getD 0 .undef)]).bind fun x15 =>
    (gcall G none 4 [x14, x15] 1).bind fun e16 =>
    (gev none .bnot [(e16.getD 0 .undef)]).bind fun x17 =>
    (gev (some (x17, false)) .id [(e12.getD 1 .undef)]).bind fun x18 =>
    (gev (some (x17, false)) .id [(e8.getD 1 .undef)]).bind fun x19 =>
    (gev (some (x17, false)) .bne [x18, x19]).bind fun x20 =>
    (gev none .pick [x17, (.bool true), x20]).bind fun x21 =>
    tif x21 (
      some (0, [(.bool false)])) (
      (gcall G none 145 [x0, x1] 2).bind fun e22 =>
      (gcall G none 146 [(e10.getD 0 .undef), (e10.getD 1 .undef), (e22.getD 0 .undef), (e22.getD 1 .undef)] 1).bind fun e24 =>
      (gev none .bnot [(e24.getD 0 .undef)]).bind fun x25 =>
      tif x25 (
        some (0, [(.bool false)])) (
        some (0, [(.bool true)]))))
theorem eq464 {G : Told} {fuel : Nat} (x0 x1 x2 x3 : D) : run G fuel T464 [x0, x1, x2, x3] = S464 G fuel x0 x1 x2 x3 := by
  rw [run_eq]; kernel_rfl

attribute [local irreducible] tif tjoin IntKind.wrap feq fadd fmul fsub fdiv fgt i2f sameP wide eqV vl il tl totL szM szP marksV marksT inr triP validP pairP flipB gnP

set_option maxHeartbeats 4000000 in
theorem run464 {G : Told} (g4 : G 4 = F4) (g142 : G 142 = F142) (g145 : G 145 = F145) (g146 : G 146 = F146) (g418 : G 418 = F418) : ∀ ds rs, F464 ds = some rs → ∃ fuel, run G fuel T464 ds = some (0, rs) := by
  intro ds rs h
  unfold F464 at h
  split at h
  case h_2 => cases h
  rename_i a b p q
  obtain ⟨vs, ha, h⟩ := Option.bind_eq_some_iff.1 h
  obtain ⟨ts, hb, h⟩ := Option.bind_eq_some_iff.1 h
  rw [dV_inv ha, dT_inv hb]
  split at h
  case isFalse => cases h
  rename_i hc
  simp only [Option.some.injEq] at h
  subst h
  clear ha
  clear hb
  refine ⟨0, ?_⟩
  rw [eq464]
  unfold S464
  have z1 := F142_m hc
  by_cases hsz : szM vs ts ≤ 1048576
  case neg =>
    rw [szP_neg hsz] at z1
    repeat' first
      | with_reducible refine st_ift ?_
      | with_reducible refine st_iff ?_
      | ((with_reducible apply st_ift4); exact rfl)
      | ((with_reducible apply st_iff4); exact rfl)
      | ((with_reducible apply st_call); exact g142; exact rfl; exact z1; exact rfl)
      | ((with_reducible apply st_callt); assumption; exact rfl; exact rfl; assumption)
      | ((with_reducible apply st_callf); assumption; exact rfl; exact rfl; assumption)
      | ((with_reducible apply st_call); assumption; exact rfl; exact rfl; exact rfl)
      | ((with_reducible apply st_wide); exact rfl; exact rfl)
      | ((with_reducible apply st_skip); exact rfl)
      | ((with_reducible apply st_t); exact rfl; exact rfl)
      | ((with_reducible apply st_f); exact rfl; exact rfl)
      | ((with_reducible apply st_t); exact rfl; assumption)
      | ((with_reducible apply st_f); exact rfl; assumption)
      | ((with_reducible apply st_some); exact rfl)
      | exact rfl
  rw [szP_pos hsz] at z1
  have d1 : decide ((1048576 : Int) - (szM vs ts : Nat) < 0) = false := by simp; omega
  have hz : szM vs ts = vs.length + ts.length + totL ts := by unfold szM; rfl
  have t1 := F145_m hsz
  have q1 := F146_m hsz
  have m1 := F147_m (m := 1) hsz (by omega) (by omega)
  have d3 : decide ((1 : Int) + 3 * vs.length + totL ts < 0) = false := by simp; omega
  have hr : ∃ x b, F418 [vl vs, tl ts, .int p, .int q] = some [.flt x, .bool b] := by
    rw [F418_m hsz]
    split <;> exact ⟨_, _, rfl⟩
  obtain ⟨x, b, hr⟩ := hr
  have h4 : F4 [.flt (wide x), .flt (wide x)] = some [.bool true] := by simp only [F4, sameP_self]
  cases b
  · repeat' first
      | with_reducible refine st_ift ?_
      | with_reducible refine st_iff ?_
      | ((with_reducible apply st_ift4); exact rfl)
      | ((with_reducible apply st_iff4); exact rfl)
      | ((with_reducible apply st_call); exact g142; exact rfl; exact z1; exact rfl)
      | ((with_reducible apply st_call); exact g418; exact rfl; exact hr; exact rfl)
      | ((with_reducible apply st_call); exact g4; exact rfl; exact h4; exact rfl)
      | ((with_reducible apply st_call); exact g145; exact rfl; exact t1; exact rfl)
      | ((with_reducible apply st_call); exact g146; exact rfl; exact q1; exact rfl)
      | ((with_reducible apply st_callt); assumption; exact rfl; exact rfl; assumption)
      | ((with_reducible apply st_callf); assumption; exact rfl; exact rfl; assumption)
      | ((with_reducible apply st_call); assumption; exact rfl; exact rfl; exact rfl)
      | ((with_reducible apply st_wide); exact rfl; exact rfl)
      | ((with_reducible apply st_skip); exact rfl)
      | ((with_reducible apply st_t); exact rfl; exact rfl)
      | ((with_reducible apply st_f); exact rfl; exact rfl)
      | ((with_reducible apply st_t); exact rfl; assumption)
      | ((with_reducible apply st_f); exact rfl; assumption)
      | ((with_reducible apply st_some); exact rfl)
      | exact rfl
  · repeat' first
      | with_reducible refine st_ift ?_
      | with_reducible refine st_iff ?_
      | ((with_reducible apply st_ift4); exact rfl)
      | ((with_reducible apply st_iff4); exact rfl)
      | ((with_reducible apply st_call); exact g142; exact rfl; exact z1; exact rfl)
      | ((with_reducible apply st_call); exact g418; exact rfl; exact hr; exact rfl)
      | ((with_reducible apply st_call); exact g4; exact rfl; exact h4; exact rfl)
      | ((with_reducible apply st_call); exact g145; exact rfl; exact t1; exact rfl)
      | ((with_reducible apply st_call); exact g146; exact rfl; exact q1; exact rfl)
      | ((with_reducible apply st_callt); assumption; exact rfl; exact rfl; assumption)
      | ((with_reducible apply st_callf); assumption; exact rfl; exact rfl; assumption)
      | ((with_reducible apply st_call); assumption; exact rfl; exact rfl; exact rfl)
      | ((with_reducible apply st_wide); exact rfl; exact rfl)
      | ((with_reducible apply st_skip); exact rfl)
      | ((with_reducible apply st_t); exact rfl; exact rfl)
      | ((with_reducible apply st_f); exact rfl; exact rfl)
      | ((with_reducible apply st_t); exact rfl; assumption)
      | ((with_reducible apply st_f); exact rfl; assumption)
      | ((with_reducible apply st_some); exact rfl)
      | exact rfl

end Vs
