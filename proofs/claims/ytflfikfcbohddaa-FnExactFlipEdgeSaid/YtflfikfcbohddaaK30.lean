/-
  The laws CanFlip, FlipGain, FlipEdge.
-/
import Derived.Test.YtflfikfcbohddaaK29
namespace Vs
open Go Go.Sort

open Classical in
noncomputable def F465 : List D → Option (List D)
  | [a, b, .int _, .int _] => (dV a).bind fun vs => (dT b).bind fun ts => if lawM vs ts then some [.bool true] else none
  | _ => none
def T465 : T :=
(.call none 142 [(.v 0), (.v 1), (.c (.int 1048576))] 1 <|
(.op none (.icm .lss) [(.v 4), (.c (.int 0))] <|
(.ite (.v 5)
  (.out 0 [(.c (.bool true))])
  (.call none 145 [(.v 0), (.v 1)] 2 <|
  (.call none 421 [(.v 6), (.v 7), (.v 2), (.v 3)] 3 <|
  (.call none 145 [(.v 0), (.v 1)] 2 <|
  (.call none 421 [(.v 11), (.v 12), (.v 2), (.v 3)] 3 <|
  (.call none 146 [(.v 13), (.v 14), (.v 8), (.v 9)] 1 <|
  (.op none .bnot [(.v 16)] <|
  (.op (some ((.v 17), false)) .id [(.v 15)] <|
  (.op (some ((.v 17), false)) .id [(.v 10)] <|
  (.op (some ((.v 17), false)) .bne [(.v 18), (.v 19)] <|
  (.op none .pick [(.v 17), (.c (.bool true)), (.v 20)] <|
  (.ite (.v 21)
    (.out 0 [(.c (.bool false))])
    (.call none 145 [(.v 0), (.v 1)] 2 <|
    (.call none 146 [(.v 11), (.v 12), (.v 22), (.v 23)] 1 <|
    (.op none .bnot [(.v 24)] <|
    (.ite (.v 25)
      (.out 0 [(.c (.bool false))])
      (.call none 147 [(.v 11), (.v 12), (.c (.int 1))] 3 <|
      (.op none (.icm .lss) [(.v 26), (.c (.int 0))] <|
      (.call (some ((.v 29), false)) 146 [(.v 13), (.v 14), (.v 8), (.v 9)] 1 <|
      (.op (some ((.v 29), false)) .bnot [(.v 30)] <|
      (.op none .pick [(.v 29), (.c (.bool true)), (.v 31)] <|
      (.op (some ((.v 32), false)) .id [(.v 15)] <|
      (.op (some ((.v 32), false)) .id [(.v 10)] <|
      (.op (some ((.v 32), false)) .bne [(.v 33), (.v 34)] <|
      (.op none .pick [(.v 32), (.c (.bool true)), (.v 35)] <|
      (.ite (.v 36)
        (.out 0 [(.c (.bool false))])
        (.call none 147 [(.v 13), (.v 14), (.c (.int 1))] 3 <|
        (.call none 148 [(.v 38), (.v 39), (.c (.int 1))] 1 <|
        (.op none (.icm .lss) [(.v 40), (.c (.int 0))] <|
        (.ite (.v 41)
          (.out 0 [(.c (.bool false))])
          (.op none (.icm .neq) [(.v 40), (.v 37)] <|
          (.ite (.v 42)
            (.out 0 [(.c (.bool false))])
            (.call none 145 [(.v 0), (.v 1)] 2 <|
            (.call none 421 [(.v 43), (.v 44), (.v 2), (.v 3)] 3 <|
            (.call none 146 [(.v 45), (.v 46), (.v 8), (.v 9)] 1 <|
            (.op none .bnot [(.v 48)] <|
            (.op (some ((.v 49), false)) .id [(.v 47)] <|
            (.op (some ((.v 49), false)) .id [(.v 10)] <|
            (.op (some ((.v 49), false)) .bne [(.v 50), (.v 51)] <|
            (.op none .pick [(.v 49), (.c (.bool true)), (.v 52)] <|
            (.ite (.v 53)
              (.out 0 [(.c (.bool false))])
              (.call none 148 [(.v 38), (.v 39), (.c (.int 1))] 1 <|
              (.op none (.icm .lss) [(.v 54), (.c (.int 0))] <|
              (.ite (.v 55)
                (.out 0 [(.c (.bool false))])
                (.op none (.icm .neq) [(.v 54), (.v 37)] <|
                (.ite (.v 56)
                  (.out 0 [(.c (.bool false))])
                  (.out 0 [(.c (.bool true))])))))))))))))))))))))))))))))))))))))))))))))))))
def S465 (G : Told) (_fuel : Nat) (x0 x1 x2 x3 : D) : Option (Nat × List D) :=
  (gcall G none 142 [x0, x1, (.int 1048576)] 1).bind fun e4 =>
  (gev none (.icm .lss) [(e4.getD 0 .undef), (.int 0)]).bind fun x5 =>
  tif x5 (
    some (0, [(.bool true)])) (
    (gcall G none 145 [x0, x1] 2).bind fun e6 =>
    (gcall G none 421 [(e6.getD 0 .undef), (e6.getD 1 .undef), x2, x3] 3).bind fun e8 =>
    (gcall G none 145 [x0, x1] 2).bind fun e11 =>
    (gcall G none 421 [(e11.getD 0 .undef), (e11.getD 1 .undef), x2, x3] 3).bind fun e13 =>
    (gcall G none 146 [(e13.getD 0 .undef), (e13.getD 1 .undef), (e8.getD 0 .undef), (e8.getD 1 .undef)] 1).bind fun e16 =>
    (gev none .bnot [(e16.getD 0 .undef)]).bind fun x17 =>
    (gev (some (x17, false)) .id [(e13.getD 2 .undef)]).bind fun x18 =>
    (gev (some (x17, false)) .id [(e8.getD 2 .undef)]).bind fun x19 =>
    (gev (some (x17, false)) .bne [x18, x19]).bind fun x20 =>
    (gev none .pick [x17, (.bool true), x20]).bind fun x21 =>
    tif x21 (
      some (0, [(.bool false)])) (
      (gcall G none 145 [x0, x1] 2).bind fun e22 =>
      (gcall G none 146 [(e11.getD 0 .undef), (e11.getD 1 .undef), (e22.getD 0 .undef), (e22.getD 1 .undef)] 1).bind fun e24 =>
      (gev none .bnot [(e24.getD 0 .undef)]).bind fun x25 =>
      tif x25 (
        some (0, [(.bool false)])) (
        (gcall G none 147 [(e11.getD 0 .undef), (e11.getD 1 .undef), (.int 1)] 3).bind fun e26 =>
        (gev none (.icm .lss) [(e26.getD 0 .undef), (.int 0)]).bind fun x29 =>
        (gcall G (some (x29, false)) 146 [(e13.getD 0 .undef), (e13.getD 1 .undef), (e8.getD 0 .undef), (e8.getD 1 .undef)] 1).bind fun e30 =>
        (gev (some (x29, false)) .bnot [(e30.getD 0 .undef)]).bind fun x31 =>
        (gev none .pick [x29, (.bool true), x31]).bind fun x32 =>
        (gev (some (x32, false)) .id [(e13.getD 2 .undef)]).bind fun x33 =>
        (gev (some (x32, false)) .id [(e8.getD 2 .undef)]).bind fun x34 =>
        (gev (some (x32, false)) .bne [x33, x34]).bind fun x35 =>
        (gev none .pick [x32, (.bool true), x35]).bind fun x36 =>
        tif x36 (
          some (0, [(.bool false)])) (
          (gcall G none 147 [(e13.getD 0 .undef), (e13.getD 1 .undef), (.int 1)] 3).bind fun e37 =>
          (gcall G none 148 [(e37.getD 1 .undef), (e37.getD 2 .undef), (.int 1)] 1).bind fun e40 =>
          (gev none (.icm .lss) [(e40.getD 0 .undef), (.int 0)]).bind fun x41 =>
          tif x41 (
            some (0, [(.bool false)])) (
            (gev none (.icm .neq) [(e40.getD 0 .undef), (e37.getD 0 .undef)]).bind fun x42 =>
            tif x42 (
              some (0, [(.bool false)])) (
              (gcall G none 145 [x0, x1] 2).bind fun e43 =>
              (gcall G none 421 [(e43.getD 0 .undef), (e43.getD 1 .undef), x2, x3] 3).bind fun e45 =>
              (gcall G none 146 [(e45.getD 0 .undef), (e45.getD 1 .undef), (e8.getD 0 .undef), (e8.getD 1 .undef)] 1).bind fun e48 =>
              (gev none .bnot [(e48.getD 0 .undef)]).bind fun x49 =>
              (gev (some (x49, false)) .id [(e45.getD 2 .undef)]).bind fun x50 =>
              (gev (some (x49, false)) .id [(e8.getD 2 .undef)]).bind fun x51 =>
              (gev (some (x49, false)) .bne [x50, x51]).bind fun x52 =>
              (gev none .pick [x49, (.bool true), x52]).bind fun x53 =>
              tif x53 (
                some (0, [(.bool false)])) (
                (gcall G none 148 [(e37.getD 1 .undef), (e37.getD 2 .undef), (.int 1)] 1).bind fun e54 =>
                (gev none (.icm .lss) [(e54.getD 0 .undef), (.int 0)]).bind fun x55 =>
                tif x55 (
                  some (0, [(.bool false)])) (
                  (gev none (.icm .neq) [(e54.getD 0 .undef), (e37.getD 0 .undef)]).bind fun x56 =>
                  tif x56 (
                    some (0, [(.bool false)])) (
                    some (0, [(.bool true)]))))))))))
theorem eq465 {G : Told} {fuel : Nat} (x0 x1 x2 x3 : D) : run G fuel T465 [x0, x1, x2, x3] = S465 G fuel x0 x1 x2 x3 := by
  rw [run_eq]; kernel_rfl

attribute [local irreducible] tif tjoin IntKind.wrap feq fadd fmul fsub fdiv fgt i2f sameP wide eqV vl il tl totL szM szP marksV marksT inr triP validP pairP flipB flipT

set_option maxHeartbeats 4000000 in
theorem run465 {G : Told} (g142 : G 142 = F142) (g145 : G 145 = F145) (g146 : G 146 = F146) (g147 : G 147 = F147) (g148 : G 148 = F148) (g421 : G 421 = F421) : ∀ ds rs, F465 ds = some rs → ∃ fuel, run G fuel T465 ds = some (0, rs) := by
  intro ds rs h
  unfold F465 at h
  split at h
  case h_2 => cases h
  rename_i a b p q
  obtain ⟨vs, ha, h⟩ := Option.bind_eq_some_iff.1 h
  obtain ⟨ts, hb, h⟩ := Option.bind_eq_some_iff.1 h
  rw [dV_inv ha, dT_inv hb]
  split at h
  case isFalse => cases h
  rename_i hc
  simp only [Option.some.injEq] at h
  subst h
  clear ha
  clear hb
  refine ⟨0, ?_⟩
  rw [eq465]
  unfold S465
  have z1 := F142_m hc
  by_cases hsz : szM vs ts ≤ 1048576
  case neg =>
    rw [szP_neg hsz] at z1
    repeat' first
      | with_reducible refine st_ift ?_
      | with_reducible refine st_iff ?_
      | ((with_reducible apply st_ift4); exact rfl)
      | ((with_reducible apply st_iff4); exact rfl)
      | ((with_reducible apply st_call); exact g142; exact rfl; exact z1; exact rfl)
      | ((with_reducible apply st_callt); assumption; exact rfl; exact rfl; assumption)
      | ((with_reducible apply st_callf); assumption; exact rfl; exact rfl; assumption)
      | ((with_reducible apply st_call); assumption; exact rfl; exact rfl; exact rfl)
      | ((with_reducible apply st_wide); exact rfl; exact rfl)
      | ((with_reducible apply st_skip); exact rfl)
      | ((with_reducible apply st_t); exact rfl; exact rfl)
      | ((with_reducible apply st_f); exact rfl; exact rfl)
      | ((with_reducible apply st_t); exact rfl; assumption)
      | ((with_reducible apply st_f); exact rfl; assumption)
      | ((with_reducible apply st_some); exact rfl)
      | exact rfl
  rw [szP_pos hsz] at z1
  have d1 : decide ((1048576 : Int) - (szM vs ts : Nat) < 0) = false := by simp; omega
  have hz : szM vs ts = vs.length + ts.length + totL ts := by unfold szM; rfl
  have t1 := F145_m hsz
  have q1 := F146_m hsz
  have m1 := F147_m (m := 1) hsz (by omega) (by omega)
  have d3 : decide ((1 : Int) + 3 * vs.length + totL ts < 0) = false := by simp; omega
  have hr : ∃ us ss b, F421 [vl vs, tl ts, .int p, .int q] = some [vl us, tl ss, .bool b] ∧ szM us ss ≤ 1048576 := by
    rw [F421_m hsz]
    split
    · rename_i hf
      rw [Bool.and_eq_true] at hf
      have hv := (okP_ok (pair_ok hf.1)).1
      exact ⟨_, _, _, rfl, by rw [szM_flip hv]; exact hsz⟩
    · exact ⟨_, _, _, rfl, by unfold szM totL; simp⟩
  obtain ⟨us, ss, b, hr, hu⟩ := hr
  have hzu : szM us ss = us.length + ss.length + totL ss := by unfold szM; rfl
  have q3 := F146_m hu
  have m3 := F147_m (m := 1) hu (by omega) (by omega)
  have n3 := F148_m (m := 1) hu (by omega) (by omega)
  have d4 : decide ((1 : Int) + 3 * us.length + totL ss < 0) = false := by simp; omega
  have d5 : ((1 : Int) + 3 * us.length + totL ss != 1 + 3 * us.length + totL ss) = false := by simp
  cases b
  · repeat' first
      | with_reducible refine st_ift ?_
      | with_reducible refine st_iff ?_
      | ((with_reducible apply st_ift4); exact rfl)
      | ((with_reducible apply st_iff4); exact rfl)
      | ((with_reducible apply st_call); exact g142; exact rfl; exact z1; exact rfl)
      | ((with_reducible apply st_call); exact g421; exact rfl; exact hr; exact rfl)
      | ((with_reducible apply st_call); exact g145; exact rfl; exact t1; exact rfl)
      | ((with_reducible apply st_call); exact g146; exact rfl; exact q1; exact rfl)
      | ((with_reducible apply st_call); exact g146; exact rfl; exact q3; exact rfl)
      | ((with_reducible apply st_call); exact g147; exact rfl; exact m1; exact rfl)
      | ((with_reducible apply st_call); exact g147; exact rfl; exact m3; exact rfl)
      | ((with_reducible apply st_call); exact g148; exact rfl; exact n3; exact rfl)
      | ((with_reducible apply st_callt); assumption; exact rfl; exact rfl; assumption)
      | ((with_reducible apply st_callf); assumption; exact rfl; exact rfl; assumption)
      | ((with_reducible apply st_call); assumption; exact rfl; exact rfl; exact rfl)
      | ((with_reducible apply st_wide); exact rfl; exact rfl)
      | ((with_reducible apply st_skip); exact rfl)
      | ((with_reducible apply st_t); exact rfl; exact rfl)
      | ((with_reducible apply st_f); exact rfl; exact rfl)
      | ((with_reducible apply st_t); exact rfl; assumption)
      | ((with_reducible apply st_f); exact rfl; assumption)
      | ((with_reducible apply st_some); exact rfl)
      | exact rfl
  · repeat' first
      | with_reducible refine st_ift ?_
      | with_reducible refine st_iff ?_
      | ((with_reducible apply st_ift4); exact rfl)
      | ((with_reducible apply st_iff4); exact rfl)
      | ((with_reducible apply st_call); exact g142; exact rfl; exact z1; exact rfl)
      | ((with_reducible apply st_call); exact g421; exact rfl; exact hr; exact rfl)
      | ((with_reducible apply st_call); exact g145; exact rfl; exact t1; exact rfl)
      | ((with_reducible apply st_call); exact g146; exact rfl; exact q1; exact rfl)
      | ((with_reducible apply st_call); exact g146; exact rfl; exact q3; exact rfl)
      | ((with_reducible apply st_call); exact g147; exact rfl; exact m1; exact rfl)
      | ((with_reducible apply st_call); exact g147; exact rfl; exact m3; exact rfl)
      | ((with_reducible apply st_call); exact g148; exact rfl; exact n3; exact rfl)
      | ((with_reducible apply st_callt); assumption; exact rfl; exact rfl; assumption)
      | ((with_reducible apply st_callf); assumption; exact rfl; exact rfl; assumption)
      | ((with_reducible apply st_call); assumption; exact rfl; exact rfl; exact rfl)
      | ((with_reducible apply st_wide); exact rfl; exact rfl)
      | ((with_reducible apply st_skip); exact rfl)
      | ((with_reducible apply st_t); exact rfl; exact rfl)
      | ((with_reducible apply st_f); exact rfl; exact rfl)
      | ((with_reducible apply st_t); exact rfl; assumption)
      | ((with_reducible apply st_f); exact rfl; assumption)
      | ((with_reducible apply st_some); exact rfl)
      | exact rfl

end Vs
