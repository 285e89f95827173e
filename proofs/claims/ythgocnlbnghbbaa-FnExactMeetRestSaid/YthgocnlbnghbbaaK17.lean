/-
  MeetRest: what the functions compute, and the law.
-/
import Derived.Test.YthgocnlbnghbbaaK4
namespace Vs
open Go

def nilV (v : V3) : Bool := feq .f32 v.x 0 && (feq .f32 v.y 0 && (feq .f32 v.z 0 && true))
def badV (v : V3) : Bool := !v.fin || nilV v
def longV3 (v : V3) : Nat := longP v.x v.y v.z
def unitV (v : V3) : V3 := V3.scale v (part1 (longV3 v))
def F300 : List D → Option (List D)
  | [.flt a, .flt b, .flt c] => some (if badV ⟨a, b, c⟩ = true then [.flt 0, .flt 0, .flt 0, .bool false] else (unitV ⟨a, b, c⟩).ds ++ [.bool true])
  | _ => none
def restV (x y z : V3) : Nat := longV3 (V3.add (V3.add (unitV x) (unitV y)) (unitV z))
def F301 : List D → Option (List D)
  | [.flt a, .flt b, .flt c, .flt d, .flt e, .flt f, .flt g, .flt h, .flt i] =>
    some (if badV ⟨a, b, c⟩ = true ∨ badV ⟨d, e, f⟩ = true ∨ badV ⟨g, h, i⟩ = true then [.flt 0, .bool false] else [.flt (restV ⟨a, b, c⟩ ⟨d, e, f⟩ ⟨g, h, i⟩), .bool true])
  | _ => none
def F302 : List D → Option (List D)
  | [.flt _, .flt _, .flt _, .flt _, .flt _, .flt _, .flt _, .flt _, .flt _] => some [.bool true]
  | _ => none
theorem F301_two (a b c d e f g h i : Nat) : ∃ x y, F301 [.flt a, .flt b, .flt c, .flt d, .flt e, .flt f, .flt g, .flt h, .flt i] = some [.flt x, .bool y] := by
  simp only [F301]
  split <;> exact ⟨_, _, rfl⟩

def T300 : T :=
(.call none 15 [(.v 0), (.v 1), (.v 2)] 1 <|
(.call none 18 [(.v 0), (.v 1), (.v 2)] 1 <|
(.op none .bnot [(.v 4)] <|
(.op (some ((.v 5), false)) (.aeq [(some .f32), (some .f32), (some .f32)] false) [(.v 0), (.v 1), (.v 2), (.c (.flt 0)), (.c (.flt 0)), (.c (.flt 0))] <|
(.op none .pick [(.v 5), (.c (.bool true)), (.v 6)] <|
(.ite (.v 7)
  (.out 0 [(.c (.flt 0)), (.c (.flt 0)), (.c (.flt 0)), (.c (.bool false))])
  (.op none (.far .quo .f32) [(.c (.flt 1065353216)), (.v 3)] <|
  (.call none 31 [(.v 0), (.v 1), (.v 2), (.v 8)] 3 <|
  (.out 0 [(.v 9), (.v 10), (.v 11), (.c (.bool true))])))))))))
def S300 (G : Told) (_fuel : Nat) (x0 x1 x2 : D) : Option (Nat × List D) :=
  (gcall G none 15 [x0, x1, x2] 1).bind fun e3 =>
  (gcall G none 18 [x0, x1, x2] 1).bind fun e4 =>
  (gev none .bnot [(e4.getD 0 .undef)]).bind fun x5 =>
  (gev (some (x5, false)) (.aeq [(some .f32), (some .f32), (some .f32)] false) [x0, x1, x2, (.flt 0), (.flt 0), (.flt 0)]).bind fun x6 =>
  (gev none .pick [x5, (.bool true), x6]).bind fun x7 =>
  tif x7 (
    some (0, [(.flt 0), (.flt 0), (.flt 0), (.bool false)])) (
    (gev none (.far .quo .f32) [(.flt 1065353216), (e3.getD 0 .undef)]).bind fun x8 =>
    (gcall G none 31 [x0, x1, x2, x8] 3).bind fun e9 =>
    some (0, [(e9.getD 0 .undef), (e9.getD 1 .undef), (e9.getD 2 .undef), (.bool true)]))
theorem eq300 {G : Told} {fuel : Nat} (x0 x1 x2 : D) : run G fuel T300 [x0, x1, x2] = S300 G fuel x0 x1 x2 := by
  rw [run_eq]; kernel_rfl

def T301 : T :=
(.op none .mklst [] <|
(.op none .mkagg [(.v 0), (.v 1), (.v 2)] <|
(.op none .mkagg [(.v 3), (.v 4), (.v 5)] <|
(.op none .mkagg [(.v 6), (.v 7), (.v 8)] <|
(.op none .mklst [(.v 10), (.v 11), (.v 12)] <|
(.op none .len [(.v 13)] <|
(.join 3
  (.loop [(.v 9), (.c (.int 0))]
    (.op none (.icm .lss) [(.v 16), (.v 14)] <|
    (.ite (.v 17)
      (.op none .idx [(.v 13), (.v 16)] <|
      (.op none .idx [(.v 13), (.v 16)] <|
      (.op none (.proj 0) [(.v 19)] <|
      (.op none (.proj 1) [(.v 19)] <|
      (.op none (.proj 2) [(.v 19)] <|
      (.call none 18 [(.v 20), (.v 21), (.v 22)] 1 <|
      (.op none .bnot [(.v 23)] <|
      (.op (some ((.v 24), false)) (.aeq [(some .f32), (some .f32), (some .f32)] false) [(.v 20), (.v 21), (.v 22), (.c (.flt 0)), (.c (.flt 0)), (.c (.flt 0))] <|
      (.op none .pick [(.v 24), (.c (.bool true)), (.v 25)] <|
      (.ite (.v 26)
        (.out 2 [(.c (.flt 0)), (.c (.bool false))])
        (.call none 15 [(.v 20), (.v 21), (.v 22)] 1 <|
        (.op none (.far .quo .f32) [(.c (.flt 1065353216)), (.v 27)] <|
        (.call none 31 [(.v 20), (.v 21), (.v 22), (.v 28)] 3 <|
        (.op none .mkagg [(.v 29), (.v 30), (.v 31)] <|
        (.op none .mklst [(.v 32)] <|
        (.op none .app [(.v 15), (.v 33)] <|
        (.op none (.iar .add .i64) [(.v 16), (.c (.int 1))] <|
        (.out 0 [(.v 34), (.v 35)]))))))))))))))))))
      (.out 1 [(.v 15), (.v 16), (.v 17)]))))
(.op none .idx [(.v 15), (.c (.int 0))] <|
(.op none .idx [(.v 15), (.c (.int 0))] <|
(.op none (.proj 0) [(.v 19)] <|
(.op none (.proj 1) [(.v 19)] <|
(.op none (.proj 2) [(.v 19)] <|
(.op none .idx [(.v 15), (.c (.int 1))] <|
(.op none .idx [(.v 15), (.c (.int 1))] <|
(.op none (.proj 0) [(.v 24)] <|
(.op none (.proj 1) [(.v 24)] <|
(.op none (.proj 2) [(.v 24)] <|
(.call none 30 [(.v 20), (.v 21), (.v 22), (.v 25), (.v 26), (.v 27)] 3 <|
(.op none .idx [(.v 15), (.c (.int 2))] <|
(.op none .idx [(.v 15), (.c (.int 2))] <|
(.op none (.proj 0) [(.v 32)] <|
(.op none (.proj 1) [(.v 32)] <|
(.op none (.proj 2) [(.v 32)] <|
(.call none 30 [(.v 28), (.v 29), (.v 30), (.v 33), (.v 34), (.v 35)] 3 <|
(.call none 15 [(.v 36), (.v 37), (.v 38)] 1 <|
(.out 0 [(.v 39), (.c (.bool true))]))))))))))))))))))))))))))
def S301L0 (G : Told) (x13 : D) (x14 : D) : List D → Option (Nat × List D) := fun e15 =>
      (gev none (.icm .lss) [(e15.getD 1 .undef), x14]).bind fun x17 =>
      tif x17 (
        (gev none .idx [x13, (e15.getD 1 .undef)]).bind fun _x18 =>
        (gev none .idx [x13, (e15.getD 1 .undef)]).bind fun x19 =>
        (gev none (.proj 0) [x19]).bind fun x20 =>
        (gev none (.proj 1) [x19]).bind fun x21 =>
        (gev none (.proj 2) [x19]).bind fun x22 =>
        (gcall G none 18 [x20, x21, x22] 1).bind fun e23 =>
        (gev none .bnot [(e23.getD 0 .undef)]).bind fun x24 =>
        (gev (some (x24, false)) (.aeq [(some .f32), (some .f32), (some .f32)] false) [x20, x21, x22, (.flt 0), (.flt 0), (.flt 0)]).bind fun x25 =>
        (gev none .pick [x24, (.bool true), x25]).bind fun x26 =>
        tif x26 (
          some (2, [(.flt 0), (.bool false)])) (
          (gcall G none 15 [x20, x21, x22] 1).bind fun e27 =>
          (gev none (.far .quo .f32) [(.flt 1065353216), (e27.getD 0 .undef)]).bind fun x28 =>
          (gcall G none 31 [x20, x21, x22, x28] 3).bind fun e29 =>
          (gev none .mkagg [(e29.getD 0 .undef), (e29.getD 1 .undef), (e29.getD 2 .undef)]).bind fun x32 =>
          (gev none .mklst [x32]).bind fun x33 =>
          (gev none .app [(e15.getD 0 .undef), x33]).bind fun x34 =>
          (gev none (.iar .add .i64) [(e15.getD 1 .undef), (.int 1)]).bind fun x35 =>
          some (0, [x34, x35]))) (
        some (1, [(e15.getD 0 .undef), (e15.getD 1 .undef), x17]))
def S301 (G : Told) (fuel : Nat) (x0 x1 x2 x3 x4 x5 x6 x7 x8 : D) : Option (Nat × List D) :=
  (gev none .mklst []).bind fun x9 =>
  (gev none .mkagg [x0, x1, x2]).bind fun x10 =>
  (gev none .mkagg [x3, x4, x5]).bind fun x11 =>
  (gev none .mkagg [x6, x7, x8]).bind fun x12 =>
  (gev none .mklst [x10, x11, x12]).bind fun x13 =>
  (gev none .len [x13]).bind fun x14 =>
  tjoin 3 (
    iter (tbody 2 (S301L0 G x13 x14)) fuel [x9, (.int 0)]) fun e15 =>
  (gev none .idx [(e15.getD 0 .undef), (.int 0)]).bind fun _x18 =>
  (gev none .idx [(e15.getD 0 .undef), (.int 0)]).bind fun x19 =>
  (gev none (.proj 0) [x19]).bind fun x20 =>
  (gev none (.proj 1) [x19]).bind fun x21 =>
  (gev none (.proj 2) [x19]).bind fun x22 =>
  (gev none .idx [(e15.getD 0 .undef), (.int 1)]).bind fun _x23 =>
  (gev none .idx [(e15.getD 0 .undef), (.int 1)]).bind fun x24 =>
  (gev none (.proj 0) [x24]).bind fun x25 =>
  (gev none (.proj 1) [x24]).bind fun x26 =>
  (gev none (.proj 2) [x24]).bind fun x27 =>
  (gcall G none 30 [x20, x21, x22, x25, x26, x27] 3).bind fun e28 =>
  (gev none .idx [(e15.getD 0 .undef), (.int 2)]).bind fun _x31 =>
  (gev none .idx [(e15.getD 0 .undef), (.int 2)]).bind fun x32 =>
  (gev none (.proj 0) [x32]).bind fun x33 =>
  (gev none (.proj 1) [x32]).bind fun x34 =>
  (gev none (.proj 2) [x32]).bind fun x35 =>
  (gcall G none 30 [(e28.getD 0 .undef), (e28.getD 1 .undef), (e28.getD 2 .undef), x33, x34, x35] 3).bind fun e36 =>
  (gcall G none 15 [(e36.getD 0 .undef), (e36.getD 1 .undef), (e36.getD 2 .undef)] 1).bind fun e39 =>
  some (0, [(e39.getD 0 .undef), (.bool true)])
theorem eq301 {G : Told} {fuel : Nat} (x0 x1 x2 x3 x4 x5 x6 x7 x8 : D) : run G fuel T301 [x0, x1, x2, x3, x4, x5, x6, x7, x8] = S301 G fuel x0 x1 x2 x3 x4 x5 x6 x7 x8 := by
  rw [run_eq]; kernel_rfl

def T301s : T :=
(.call none 300 [(.v 0), (.v 1), (.v 2)] 4 <|
(.call none 300 [(.v 3), (.v 4), (.v 5)] 4 <|
(.call none 300 [(.v 6), (.v 7), (.v 8)] 4 <|
(.op none .bnot [(.v 12)] <|
(.op (some ((.v 21), false)) .id [(.v 16)] <|
(.op (some ((.v 21), false)) .bnot [(.v 22)] <|
(.op none .pick [(.v 21), (.c (.bool true)), (.v 23)] <|
(.op (some ((.v 24), false)) .id [(.v 20)] <|
(.op (some ((.v 24), false)) .bnot [(.v 25)] <|
(.op none .pick [(.v 24), (.c (.bool true)), (.v 26)] <|
(.ite (.v 27)
  (.out 0 [(.c (.flt 0)), (.c (.bool false))])
  (.call none 30 [(.v 9), (.v 10), (.v 11), (.v 13), (.v 14), (.v 15)] 3 <|
  (.call none 30 [(.v 28), (.v 29), (.v 30), (.v 17), (.v 18), (.v 19)] 3 <|
  (.call none 15 [(.v 31), (.v 32), (.v 33)] 1 <|
  (.out 0 [(.v 34), (.c (.bool true))])))))))))))))))
def S301s (G : Told) (_fuel : Nat) (x0 x1 x2 x3 x4 x5 x6 x7 x8 : D) : Option (Nat × List D) :=
  (gcall G none 300 [x0, x1, x2] 4).bind fun e9 =>
  (gcall G none 300 [x3, x4, x5] 4).bind fun e13 =>
  (gcall G none 300 [x6, x7, x8] 4).bind fun e17 =>
  (gev none .bnot [(e9.getD 3 .undef)]).bind fun x21 =>
  (gev (some (x21, false)) .id [(e13.getD 3 .undef)]).bind fun x22 =>
  (gev (some (x21, false)) .bnot [x22]).bind fun x23 =>
  (gev none .pick [x21, (.bool true), x23]).bind fun x24 =>
  (gev (some (x24, false)) .id [(e17.getD 3 .undef)]).bind fun x25 =>
  (gev (some (x24, false)) .bnot [x25]).bind fun x26 =>
  (gev none .pick [x24, (.bool true), x26]).bind fun x27 =>
  tif x27 (
    some (0, [(.flt 0), (.bool false)])) (
    (gcall G none 30 [(e9.getD 0 .undef), (e9.getD 1 .undef), (e9.getD 2 .undef), (e13.getD 0 .undef), (e13.getD 1 .undef), (e13.getD 2 .undef)] 3).bind fun e28 =>
    (gcall G none 30 [(e28.getD 0 .undef), (e28.getD 1 .undef), (e28.getD 2 .undef), (e17.getD 0 .undef), (e17.getD 1 .undef), (e17.getD 2 .undef)] 3).bind fun e31 =>
    (gcall G none 15 [(e31.getD 0 .undef), (e31.getD 1 .undef), (e31.getD 2 .undef)] 1).bind fun e34 =>
    some (0, [(e34.getD 0 .undef), (.bool true)]))
theorem eq301s {G : Told} {fuel : Nat} (x0 x1 x2 x3 x4 x5 x6 x7 x8 : D) : run G fuel T301s [x0, x1, x2, x3, x4, x5, x6, x7, x8] = S301s G fuel x0 x1 x2 x3 x4 x5 x6 x7 x8 := by
  rw [run_eq]; kernel_rfl

def T302 : T :=
(.call none 16 [(.v 0), (.v 1), (.v 2)] 3 <|
(.call none 16 [(.v 3), (.v 4), (.v 5)] 3 <|
(.call none 16 [(.v 6), (.v 7), (.v 8)] 3 <|
(.call none 301 [(.v 9), (.v 10), (.v 11), (.v 12), (.v 13), (.v 14), (.v 15), (.v 16), (.v 17)] 2 <|
(.call none 16 [(.v 0), (.v 1), (.v 2)] 3 <|
(.call none 16 [(.v 3), (.v 4), (.v 5)] 3 <|
(.call none 16 [(.v 6), (.v 7), (.v 8)] 3 <|
(.call none 301 [(.v 20), (.v 21), (.v 22), (.v 23), (.v 24), (.v 25), (.v 26), (.v 27), (.v 28)] 2 <|
(.op none (.f2f .f32 .f64) [(.v 29)] <|
(.op none (.f2f .f32 .f64) [(.v 18)] <|
(.call none 4 [(.v 31), (.v 32)] 1 <|
(.op none .bnot [(.v 33)] <|
(.op (some ((.v 34), false)) .id [(.v 30)] <|
(.op (some ((.v 34), false)) .id [(.v 19)] <|
(.op (some ((.v 34), false)) .bne [(.v 35), (.v 36)] <|
(.op none .pick [(.v 34), (.c (.bool true)), (.v 37)] <|
(.ite (.v 38)
  (.out 0 [(.c (.bool false))])
  (.out 0 [(.c (.bool true))]))))))))))))))))))
def S302 (G : Told) (_fuel : Nat) (x0 x1 x2 x3 x4 x5 x6 x7 x8 : D) : Option (Nat × List D) :=
  (gcall G none 16 [x0, x1, x2] 3).bind fun e9 =>
  (gcall G none 16 [x3, x4, x5] 3).bind fun e12 =>
  (gcall G none 16 [x6, x7, x8] 3).bind fun e15 =>
  (gcall G none 301 [(e9.getD 0 .undef), (e9.getD 1 .undef), (e9.getD 2 .undef), (e12.getD 0 .undef), (e12.getD 1 .undef), (e12.getD 2 .undef), (e15.getD 0 .undef), (e15.getD 1 .undef), (e15.getD 2 .undef)] 2).bind fun e18 =>
  (gcall G none 16 [x0, x1, x2] 3).bind fun e20 =>
  (gcall G none 16 [x3, x4, x5] 3).bind fun e23 =>
  (gcall G none 16 [x6, x7, x8] 3).bind fun e26 =>
  (gcall G none 301 [(e20.getD 0 .undef), (e20.getD 1 .undef), (e20.getD 2 .undef), (e23.getD 0 .undef), (e23.getD 1 .undef), (e23.getD 2 .undef), (e26.getD 0 .undef), (e26.getD 1 .undef), (e26.getD 2 .undef)] 2).bind fun e29 =>
  (gev none (.f2f .f32 .f64) [(e29.getD 0 .undef)]).bind fun x31 =>
  (gev none (.f2f .f32 .f64) [(e18.getD 0 .undef)]).bind fun x32 =>
  (gcall G none 4 [x31, x32] 1).bind fun e33 =>
  (gev none .bnot [(e33.getD 0 .undef)]).bind fun x34 =>
  (gev (some (x34, false)) .id [(e29.getD 1 .undef)]).bind fun x35 =>
  (gev (some (x34, false)) .id [(e18.getD 1 .undef)]).bind fun x36 =>
  (gev (some (x34, false)) .bne [x35, x36]).bind fun x37 =>
  (gev none .pick [x34, (.bool true), x37]).bind fun x38 =>
  tif x38 (
    some (0, [(.bool false)])) (
    some (0, [(.bool true)]))
theorem eq302 {G : Told} {fuel : Nat} (x0 x1 x2 x3 x4 x5 x6 x7 x8 : D) : run G fuel T302 [x0, x1, x2, x3, x4, x5, x6, x7, x8] = S302 G fuel x0 x1 x2 x3 x4 x5 x6 x7 x8 := by
  rw [run_eq]; kernel_rfl


attribute [local irreducible] fadd fsub fmul fdiv finP feq flt fle rootP longP innerP V3.fin

set_option maxHeartbeats 4000000 in
theorem run300 {G : Told} (g15 : G 15 = F15) (g18 : G 18 = F18) (g31 : G 31 = F31) : ∀ ds rs, F300 ds = some rs → ∃ fuel, run G fuel T300 ds = some (0, rs) := by
  intro ds rs h
  unfold F300 at h
  split at h
  case h_2 => cases h
  rename_i a b c
  simp only [Option.some.injEq] at h
  subst h
  refine ⟨0, ?_⟩
  rw [eq300]
  unfold S300
  have e18 : F18 [.flt a, .flt b, .flt c] = some [.bool (V3.fin ⟨a, b, c⟩)] := rfl
  cases hf : V3.fin ⟨a, b, c⟩
  · rw [hf] at e18
    rw [if_pos (by simp [badV, hf])]
    repeat' first
      | with_reducible refine st_ift ?_
      | with_reducible refine st_iff ?_
      | ((with_reducible apply st_call); exact g18; exact rfl; exact e18; exact rfl)
      | ((with_reducible apply st_callt); assumption; exact rfl; exact rfl; assumption)
      | ((with_reducible apply st_callf); assumption; exact rfl; exact rfl; assumption)
      | ((with_reducible apply st_call); assumption; exact rfl; exact rfl; exact rfl)
      | ((with_reducible apply st_wide); exact rfl; exact rfl)
      | ((with_reducible apply st_skip); exact rfl)
      | ((with_reducible apply st_t); exact rfl; exact rfl)
      | ((with_reducible apply st_f); exact rfl; exact rfl)
      | ((with_reducible apply st_t); exact rfl; assumption)
      | ((with_reducible apply st_f); exact rfl; assumption)
      | ((with_reducible apply st_some); exact rfl)
      | exact rfl
  · rw [hf] at e18
    have e6 : gev (some (.bool false, false)) (.aeq [(some .f32), (some .f32), (some .f32)] false) [.flt a, .flt b, .flt c, (.flt 0), (.flt 0), (.flt 0)] = some (.bool (nilV ⟨a, b, c⟩)) := rfl
    cases hn : nilV ⟨a, b, c⟩
    · rw [hn] at e6
      rw [if_neg (by simp [badV, hf, hn])]
      repeat' first
        | with_reducible refine st_ift ?_
        | with_reducible refine st_iff ?_
        | ((with_reducible apply st_call); exact g18; exact rfl; exact e18; exact rfl)
        | ((with_reducible apply st_some); exact e6)
        | ((with_reducible apply st_callt); assumption; exact rfl; exact rfl; assumption)
        | ((with_reducible apply st_callf); assumption; exact rfl; exact rfl; assumption)
        | ((with_reducible apply st_call); assumption; exact rfl; exact rfl; exact rfl)
        | ((with_reducible apply st_wide); exact rfl; exact rfl)
        | ((with_reducible apply st_skip); exact rfl)
        | ((with_reducible apply st_t); exact rfl; exact rfl)
        | ((with_reducible apply st_f); exact rfl; exact rfl)
        | ((with_reducible apply st_t); exact rfl; assumption)
        | ((with_reducible apply st_f); exact rfl; assumption)
        | ((with_reducible apply st_some); exact rfl)
        | exact rfl
    · rw [hn] at e6
      rw [if_pos (by simp [badV, hn])]
      repeat' first
        | with_reducible refine st_ift ?_
        | with_reducible refine st_iff ?_
        | ((with_reducible apply st_call); exact g18; exact rfl; exact e18; exact rfl)
        | ((with_reducible apply st_some); exact e6)
        | ((with_reducible apply st_callt); assumption; exact rfl; exact rfl; assumption)
        | ((with_reducible apply st_callf); assumption; exact rfl; exact rfl; assumption)
        | ((with_reducible apply st_call); assumption; exact rfl; exact rfl; exact rfl)
        | ((with_reducible apply st_wide); exact rfl; exact rfl)
        | ((with_reducible apply st_skip); exact rfl)
        | ((with_reducible apply st_t); exact rfl; exact rfl)
        | ((with_reducible apply st_f); exact rfl; exact rfl)
        | ((with_reducible apply st_t); exact rfl; assumption)
        | ((with_reducible apply st_f); exact rfl; assumption)
        | ((with_reducible apply st_some); exact rfl)
        | exact rfl

set_option maxHeartbeats 4000000 in
theorem step301 {G : Told} (g15 : G 15 = F15) (g18 : G 18 = F18) (g31 : G 31 = F31) {vs us : List V3} {i : Nat} (hi : i < vs.length) (hv : vs.length = 3) (hu : us.length = i) :
    tbody 2 (S301L0 G (vl vs) (.int 3)) [vl us, .int i] = some (if badV vs[i] = true then (2, [.flt 0, .bool false]) else (0, [vl (us ++ [unitV vs[i]]), .int ((i + 1 : Nat) : Int)])) := by
  show S301L0 G (vl vs) (.int 3) [vl us, .int i] = _
  unfold S301L0
  have hx := idx_vl hi
  generalize vs[i] = v at *
  have c1 : gev none (.icm .lss) [.int i, .int 3] = some (.bool true) := by simp [gev, gok, Prim.ev, icmp]; omega
  have e18 : F18 [.flt v.x, .flt v.y, .flt v.z] = some [.bool v.fin] := rfl
  have ha := app_vl (l := us) (v := unitV v) (by omega)
  have hi1 := add1n (i := i) (by omega)
  cases hf : V3.fin v
  · rw [hf] at e18
    rw [if_pos (by simp [badV, hf])]
    repeat' first
      | with_reducible refine st_ift ?_
      | with_reducible refine st_iff ?_
      | ((with_reducible apply st_call); exact g18; exact rfl; exact e18; exact rfl)
      | ((with_reducible apply st_some); exact c1)
      | ((with_reducible apply st_some); exact hx)
      | ((with_reducible apply st_callt); assumption; exact rfl; exact rfl; assumption)
      | ((with_reducible apply st_callf); assumption; exact rfl; exact rfl; assumption)
      | ((with_reducible apply st_call); assumption; exact rfl; exact rfl; exact rfl)
      | ((with_reducible apply st_wide); exact rfl; exact rfl)
      | ((with_reducible apply st_skip); exact rfl)
      | ((with_reducible apply st_t); exact rfl; exact rfl)
      | ((with_reducible apply st_f); exact rfl; exact rfl)
      | ((with_reducible apply st_t); exact rfl; assumption)
      | ((with_reducible apply st_f); exact rfl; assumption)
      | ((with_reducible apply st_some); exact rfl)
      | exact rfl
  · rw [hf] at e18
    have e6 : gev (some (.bool false, false)) (.aeq [(some .f32), (some .f32), (some .f32)] false) [.flt v.x, .flt v.y, .flt v.z, (.flt 0), (.flt 0), (.flt 0)] = some (.bool (nilV v)) := rfl
    cases hn : nilV v
    · rw [hn] at e6
      rw [if_neg (by simp [badV, hf, hn])]
      repeat' first
        | with_reducible refine st_ift ?_
        | with_reducible refine st_iff ?_
        | ((with_reducible apply st_call); exact g18; exact rfl; exact e18; exact rfl)
        | ((with_reducible apply st_some); exact c1)
        | ((with_reducible apply st_some); exact hx)
        | ((with_reducible apply st_some); exact e6)
        | ((with_reducible apply st_some); exact ha)
        | ((with_reducible apply st_some); exact hi1)
        | ((with_reducible apply st_callt); assumption; exact rfl; exact rfl; assumption)
        | ((with_reducible apply st_callf); assumption; exact rfl; exact rfl; assumption)
        | ((with_reducible apply st_call); assumption; exact rfl; exact rfl; exact rfl)
        | ((with_reducible apply st_wide); exact rfl; exact rfl)
        | ((with_reducible apply st_skip); exact rfl)
        | ((with_reducible apply st_t); exact rfl; exact rfl)
        | ((with_reducible apply st_f); exact rfl; exact rfl)
        | ((with_reducible apply st_t); exact rfl; assumption)
        | ((with_reducible apply st_f); exact rfl; assumption)
        | ((with_reducible apply st_some); exact rfl)
        | exact rfl
    · rw [hn] at e6
      rw [if_pos (by simp [badV, hn])]
      repeat' first
        | with_reducible refine st_ift ?_
        | with_reducible refine st_iff ?_
        | ((with_reducible apply st_call); exact g18; exact rfl; exact e18; exact rfl)
        | ((with_reducible apply st_some); exact c1)
        | ((with_reducible apply st_some); exact hx)
        | ((with_reducible apply st_some); exact e6)
        | ((with_reducible apply st_callt); assumption; exact rfl; exact rfl; assumption)
        | ((with_reducible apply st_callf); assumption; exact rfl; exact rfl; assumption)
        | ((with_reducible apply st_call); assumption; exact rfl; exact rfl; exact rfl)
        | ((with_reducible apply st_wide); exact rfl; exact rfl)
        | ((with_reducible apply st_skip); exact rfl)
        | ((with_reducible apply st_t); exact rfl; exact rfl)
        | ((with_reducible apply st_f); exact rfl; exact rfl)
        | ((with_reducible apply st_t); exact rfl; assumption)
        | ((with_reducible apply st_f); exact rfl; assumption)
        | ((with_reducible apply st_some); exact rfl)
        | exact rfl

set_option maxHeartbeats 4000000 in
theorem run301 {G : Told} (g15 : G 15 = F15) (g18 : G 18 = F18) (g30 : G 30 = F30) (g31 : G 31 = F31) : ∀ ds rs, F301 ds = some rs → ∃ fuel, run G fuel T301 ds = some (0, rs) := by
  intro ds rs h
  unfold F301 at h
  split at h
  case h_2 => cases h
  rename_i a b c d e f g h1 i
  simp only [Option.some.injEq] at h
  subst h
  refine ⟨4, ?_⟩
  rw [eq301]
  unfold S301
  have b0 := fun us hu => step301 g15 g18 g31 (vs := [⟨a, b, c⟩, ⟨d, e, f⟩, ⟨g, h1, i⟩]) (us := us) (i := 0) (by simp) rfl hu
  have b1 := fun us hu => step301 g15 g18 g31 (vs := [⟨a, b, c⟩, ⟨d, e, f⟩, ⟨g, h1, i⟩]) (us := us) (i := 1) (by simp) rfl hu
  have b2 := fun us hu => step301 g15 g18 g31 (vs := [⟨a, b, c⟩, ⟨d, e, f⟩, ⟨g, h1, i⟩]) (us := us) (i := 2) (by simp) rfl hu
  simp only [List.getElem_cons_zero, List.getElem_cons_succ] at b0 b1 b2
  have c0 := b0 [] rfl
  have c1 := b1 [unitV ⟨a, b, c⟩] rfl
  have c2 := b2 [unitV ⟨a, b, c⟩, unitV ⟨d, e, f⟩] rfl
  clear b0 b1 b2
  generalize hx : (⟨a, b, c⟩ : V3) = x at *
  generalize hy : (⟨d, e, f⟩ : V3) = y at *
  generalize hz : (⟨g, h1, i⟩ : V3) = z at *
  have hL : iter (tbody 2 (S301L0 G (vl [x, y, z]) (.int 3))) 4 [.lst [], .int 0] = (if badV x = true ∨ badV y = true ∨ badV z = true then some (1, [.flt 0, .bool false]) else some (0, [vl [unitV x, unitV y, unitV z], .int 3, .bool false])) := by
    cases hb0 : badV x
    · rw [hb0, if_neg (by decide)] at c0
      refine iter_go c0 ?_
      cases hb1 : badV y
      · rw [hb1, if_neg (by decide)] at c1
        refine iter_go c1 ?_
        cases hb2 : badV z
        · rw [hb2, if_neg (by decide)] at c2
          refine iter_go c2 ?_
          rw [if_neg (by decide)]
          exact iter_end (f := 0) (l := 0) rfl rfl
        · rw [hb2, if_pos rfl] at c2
          rw [if_pos (by simp)]
          exact iter_end c2 rfl
      · rw [hb1, if_pos rfl] at c1
        rw [if_pos (by simp)]
        exact iter_end c1 rfl
    · rw [hb0, if_pos rfl] at c0
      rw [if_pos (by simp)]
      exact iter_end c0 rfl
  have hd : D.lst [D.agg [.flt a, .flt b, .flt c], D.agg [.flt d, .flt e, .flt f], D.agg [.flt g, .flt h1, .flt i]] = vl [x, y, z] := by
    subst hx hy hz
    rfl
  have m0 : gev none .mklst [D.agg [.flt a, .flt b, .flt c], D.agg [.flt d, .flt e, .flt f], D.agg [.flt g, .flt h1, .flt i]] = some (vl [x, y, z]) := by rw [← hd]; rfl
  by_cases hbad : badV x = true ∨ badV y = true ∨ badV z = true
  · rw [if_pos hbad] at hL
    rw [if_pos hbad]
    repeat' first
      | with_reducible refine st_ift ?_
      | with_reducible refine st_iff ?_
      | ((with_reducible apply st_some); exact m0)
      | ((with_reducible apply st_out); exact hL; exact rfl)
      | ((with_reducible apply st_callt); assumption; exact rfl; exact rfl; assumption)
      | ((with_reducible apply st_callf); assumption; exact rfl; exact rfl; assumption)
      | ((with_reducible apply st_call); assumption; exact rfl; exact rfl; exact rfl)
      | ((with_reducible apply st_wide); exact rfl; exact rfl)
      | ((with_reducible apply st_skip); exact rfl)
      | ((with_reducible apply st_t); exact rfl; exact rfl)
      | ((with_reducible apply st_f); exact rfl; exact rfl)
      | ((with_reducible apply st_t); exact rfl; assumption)
      | ((with_reducible apply st_f); exact rfl; assumption)
      | ((with_reducible apply st_some); exact rfl)
      | exact rfl
  · rw [if_neg hbad] at hL
    rw [if_neg hbad]
    repeat' first
      | with_reducible refine st_ift ?_
      | with_reducible refine st_iff ?_
      | ((with_reducible apply st_some); exact m0)
      | ((with_reducible apply st_join); exact hL; exact rfl)
      | ((with_reducible apply st_callt); assumption; exact rfl; exact rfl; assumption)
      | ((with_reducible apply st_callf); assumption; exact rfl; exact rfl; assumption)
      | ((with_reducible apply st_call); assumption; exact rfl; exact rfl; exact rfl)
      | ((with_reducible apply st_wide); exact rfl; exact rfl)
      | ((with_reducible apply st_skip); exact rfl)
      | ((with_reducible apply st_t); exact rfl; exact rfl)
      | ((with_reducible apply st_f); exact rfl; exact rfl)
      | ((with_reducible apply st_t); exact rfl; assumption)
      | ((with_reducible apply st_f); exact rfl; assumption)
      | ((with_reducible apply st_some); exact rfl)
      | exact rfl

set_option maxHeartbeats 4000000 in
theorem run301s {G : Told} (g15 : G 15 = F15) (g30 : G 30 = F30) (g300 : G 300 = F300) : ∀ ds rs, F301 ds = some rs → ∃ fuel, run G fuel T301s ds = some (0, rs) := by
  intro ds rs h
  unfold F301 at h
  split at h
  case h_2 => cases h
  rename_i a b c d e f g h1 i
  simp only [Option.some.injEq] at h
  subst h
  refine ⟨0, ?_⟩
  rw [eq301s]
  unfold S301s
  have key : ∀ a b c, F300 [.flt a, .flt b, .flt c] = some (if badV ⟨a, b, c⟩ = true then [.flt 0, .flt 0, .flt 0, .bool false] else (unitV ⟨a, b, c⟩).ds ++ [.bool true]) := fun _ _ _ => rfl
  have k0 := key a b c
  have k1 := key d e f
  have k2 := key g h1 i
  clear key
  unfold restV
  generalize hx : (⟨a, b, c⟩ : V3) = x at *
  generalize hy : (⟨d, e, f⟩ : V3) = y at *
  generalize hz : (⟨g, h1, i⟩ : V3) = z at *
  cases hb0 : badV x <;> cases hb1 : badV y <;> cases hb2 : badV z <;> simp only [hb0, hb1, hb2, Bool.false_eq_true, if_true, if_false, or_true, or_false, or_self] at k0 k1 k2 ⊢
  all_goals
    repeat' first
      | with_reducible refine st_ift ?_
      | with_reducible refine st_iff ?_
      | ((with_reducible apply st_call); exact g300; exact rfl; exact k0; exact rfl)
      | ((with_reducible apply st_call); exact g300; exact rfl; exact k1; exact rfl)
      | ((with_reducible apply st_call); exact g300; exact rfl; exact k2; exact rfl)
      | ((with_reducible apply st_callt); assumption; exact rfl; exact rfl; assumption)
      | ((with_reducible apply st_callf); assumption; exact rfl; exact rfl; assumption)
      | ((with_reducible apply st_call); assumption; exact rfl; exact rfl; exact rfl)
      | ((with_reducible apply st_wide); exact rfl; exact rfl)
      | ((with_reducible apply st_skip); exact rfl)
      | ((with_reducible apply st_t); exact rfl; exact rfl)
      | ((with_reducible apply st_f); exact rfl; exact rfl)
      | ((with_reducible apply st_t); exact rfl; assumption)
      | ((with_reducible apply st_f); exact rfl; assumption)
      | ((with_reducible apply st_some); exact rfl)
      | exact rfl

set_option maxHeartbeats 4000000 in
theorem run302 {G : Told} (g4 : G 4 = F4) (g16 : G 16 = F16) (g301 : G 301 = F301) : ∀ ds rs, F302 ds = some rs → ∃ fuel, run G fuel T302 ds = some (0, rs) := by
  intro ds rs h
  unfold F302 at h
  split at h
  case h_2 => cases h
  rename_i a b c d e f g h1 i
  simp only [Option.some.injEq] at h
  subst h
  refine ⟨0, ?_⟩
  rw [eq302]
  unfold S302
  obtain ⟨x, y, hxy⟩ := F301_two a b c d e f g h1 i
  have h4 : F4 [.flt (wide x), .flt (wide x)] = some [.bool true] := by simp [F4, sameP_self]
  have hb : (!(y == y)) = false := by simp
  have hn : gev (some (.bool false, false)) .bne [.bool y, .bool y] = some (.bool false) := by simp [gev, gok, Prim.ev]
  repeat' first
    | with_reducible refine st_ift ?_
    | with_reducible refine st_iff ?_
    | ((with_reducible apply st_call); exact g301; exact rfl; exact hxy; exact rfl)
    | ((with_reducible apply st_call); exact g4; exact rfl; exact h4; exact rfl)
    | ((with_reducible apply st_some); exact hn)
    | ((with_reducible apply st_callt); assumption; exact rfl; exact rfl; assumption)
    | ((with_reducible apply st_callf); assumption; exact rfl; exact rfl; assumption)
    | ((with_reducible apply st_call); assumption; exact rfl; exact rfl; exact rfl)
    | ((with_reducible apply st_wide); exact rfl; exact rfl)
    | ((with_reducible apply st_skip); exact rfl)
    | ((with_reducible apply st_t); exact rfl; exact rfl)
    | ((with_reducible apply st_f); exact rfl; exact rfl)
    | ((with_reducible apply st_t); exact rfl; assumption)
    | ((with_reducible apply st_f); exact rfl; assumption)
    | ((with_reducible apply st_some); exact rfl)
    | exact rfl

end Vs
