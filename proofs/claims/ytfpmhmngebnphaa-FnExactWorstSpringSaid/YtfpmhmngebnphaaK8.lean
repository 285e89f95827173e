/-
  ShrinkRing: what the functions compute, and the law.
-/
import Derived.Test.YtfpmhmngebnphaaK7
namespace Vs
open Go

def shrV (k : Nat) (v : V3) : V3 := ⟨fmul .f32 v.x k, fmul .f32 v.y k, v.z⟩
def shrL (k : Nat) (vs : List V3) : List V3 := vs.map (shrV k)
theorem shrL_length (k : Nat) (vs : List V3) : (shrL k vs).length = vs.length := by simp [shrL]
theorem shrL_get {k : Nat} {vs : List V3} {i : Nat} (h : i < vs.length) : (shrL k vs)[i]'(by rw [shrL_length]; exact h) = shrV k vs[i] := by simp [shrL]
def F152 : List D → Option (List D) | [.flt x, .flt y, .flt z, .flt k] => some [.flt (fmul .f32 x k), .flt (fmul .f32 y k), .flt z] | _ => none
noncomputable def F153 : List D → Option (List D)
  | [a, b, .flt k] => (dV a).bind fun vs => (dT b).bind fun ts => if szM vs ts ≤ 1048576 then some (if validP vs.length ts = true then [vl (shrL k vs), tl ts, .bool true] else [vl [], tl [], .bool false]) else none
  | _ => none
noncomputable def F154 : List D → Option (List D) := F153
/-- A mesh that a law gets. -/
def lawM (vs : List V3) (ts : List (List Int)) : Prop := vs.length < 9223372036854775808 ∧ ts.length < 9223372036854775808 ∧ ∀ t ∈ ts, t.length < 9223372036854775808
open Classical in
noncomputable def F155 : List D → Option (List D)
  | [a, b, .flt _] => (dV a).bind fun vs => (dT b).bind fun ts => if lawM vs ts then some [.bool true] else none
  | _ => none
theorem F153_m {vs : List V3} {ts : List (List Int)} {k : Nat} (h : szM vs ts ≤ 1048576) : F153 [vl vs, tl ts, .flt k] = some (if validP vs.length ts = true then [vl (shrL k vs), tl ts, .bool true] else [vl [], tl [], .bool false]) := by
  simp only [F153, dV_vl, dT_tl, Option.bind_some]
  rw [if_pos h]
theorem F142_m {vs : List V3} {ts : List (List Int)} (h : lawM vs ts) : F142 [vl vs, tl ts, .int 1048576] = some [.int (szP 1048576 (szM vs ts))] := by
  simp only [F142, dV_vl, dT_tl, Option.bind_some]
  rw [if_pos ⟨trivial, h.1, h.2.1, h.2.2⟩]
theorem szP_neg {n : Nat} (h : ¬ n ≤ 1048576) : szP 1048576 n = -1 := by
  unfold szP
  rw [if_pos (by omega)]
theorem szP_pos {n : Nat} (h : n ≤ 1048576) : szP 1048576 n = 1048576 - n := by
  unfold szP
  rw [if_neg (by omega)]
theorem vl_nil : vl [] = .lst [] := rfl
theorem tl_nil : tl [] = .lst [] := rfl
theorem il_nil : il [] = .lst [] := rfl

def T152 : T :=
(.op none (.far .mul .f32) [(.v 0), (.v 3)] <|
(.op none (.far .mul .f32) [(.v 1), (.v 3)] <|
(.out 0 [(.v 4), (.v 5), (.v 2)])))
def S152 (_G : Told) (_fuel : Nat) (x0 x1 x2 x3 : D) : Option (Nat × List D) :=
  (gev none (.far .mul .f32) [x0, x3]).bind fun x4 =>
  (gev none (.far .mul .f32) [x1, x3]).bind fun x5 =>
  some (0, [x4, x5, x2])
theorem eq152 {G : Told} {fuel : Nat} (x0 x1 x2 x3 : D) : run G fuel T152 [x0, x1, x2, x3] = S152 G fuel x0 x1 x2 x3 := by
  rw [run_eq]; kernel_rfl

def T153 : T :=
(.call none 150 [(.v 0), (.v 1)] 1 <|
(.op none .bnot [(.v 3)] <|
(.ite (.v 4)
  (.out 0 [(.c (.lst [])), (.c (.lst [])), (.c (.bool false))])
  (.call none 151 [(.v 0), (.v 1)] 2 <|
  (.op none .len [(.v 5)] <|
  (.join 3
    (.loop [(.v 5), (.c (.int 0))]
      (.op none (.icm .lss) [(.v 9), (.v 7)] <|
      (.ite (.v 10)
        (.op none .idx [(.v 8), (.v 9)] <|
        (.op none .idx [(.v 8), (.v 9)] <|
        (.op none (.proj 0) [(.v 12)] <|
        (.op none (.proj 1) [(.v 12)] <|
        (.op none (.proj 2) [(.v 12)] <|
        (.call none 152 [(.v 13), (.v 14), (.v 15), (.v 2)] 3 <|
        (.op none .idx [(.v 8), (.v 9)] <|
        (.op none .mkagg [(.v 16), (.v 17), (.v 18)] <|
        (.op none .set [(.v 8), (.v 9), (.v 20)] <|
        (.op none (.iar .add .i64) [(.v 9), (.c (.int 1))] <|
        (.out 0 [(.v 21), (.v 22)])))))))))))
        (.out 1 [(.v 8), (.v 9), (.v 10)]))))
  (.out 0 [(.v 8), (.v 6), (.c (.bool true))])))))))
def S153L0 (G : Told) (x2 : D) (x7 : D) : List D → Option (Nat × List D) := fun e8 =>
        (gev none (.icm .lss) [(e8.getD 1 .undef), x7]).bind fun x10 =>
        tif x10 (
          (gev none .idx [(e8.getD 0 .undef), (e8.getD 1 .undef)]).bind fun _x11 =>
          (gev none .idx [(e8.getD 0 .undef), (e8.getD 1 .undef)]).bind fun x12 =>
          (gev none (.proj 0) [x12]).bind fun x13 =>
          (gev none (.proj 1) [x12]).bind fun x14 =>
          (gev none (.proj 2) [x12]).bind fun x15 =>
          (gcall G none 152 [x13, x14, x15, x2] 3).bind fun e16 =>
          (gev none .idx [(e8.getD 0 .undef), (e8.getD 1 .undef)]).bind fun _x19 =>
          (gev none .mkagg [(e16.getD 0 .undef), (e16.getD 1 .undef), (e16.getD 2 .undef)]).bind fun x20 =>
          (gev none .set [(e8.getD 0 .undef), (e8.getD 1 .undef), x20]).bind fun x21 =>
          (gev none (.iar .add .i64) [(e8.getD 1 .undef), (.int 1)]).bind fun x22 =>
          some (0, [x21, x22])) (
          some (1, [(e8.getD 0 .undef), (e8.getD 1 .undef), x10]))
def S153 (G : Told) (fuel : Nat) (x0 x1 x2 : D) : Option (Nat × List D) :=
  (gcall G none 150 [x0, x1] 1).bind fun e3 =>
  (gev none .bnot [(e3.getD 0 .undef)]).bind fun x4 =>
  tif x4 (
    some (0, [(.lst []), (.lst []), (.bool false)])) (
    (gcall G none 151 [x0, x1] 2).bind fun e5 =>
    (gev none .len [(e5.getD 0 .undef)]).bind fun x7 =>
    tjoin 3 (
      iter (tbody 2 (S153L0 G x2 x7)) fuel [(e5.getD 0 .undef), (.int 0)]) fun e8 =>
    some (0, [(e8.getD 0 .undef), (e5.getD 1 .undef), (.bool true)]))
theorem eq153 {G : Told} {fuel : Nat} (x0 x1 x2 : D) : run G fuel T153 [x0, x1, x2] = S153 G fuel x0 x1 x2 := by
  rw [run_eq]; kernel_rfl

def T153s : T :=
(.call none 150 [(.v 0), (.v 1)] 1 <|
(.op none .bnot [(.v 3)] <|
(.ite (.v 4)
  (.out 0 [(.c (.lst [])), (.c (.lst [])), (.c (.bool false))])
  (.call none 151 [(.v 0), (.v 1)] 2 <|
  (.join 5
    (.loop [(.v 5), (.c (.int 0))]
      (.op none .len [(.v 7)] <|
      (.op none (.icm .lss) [(.v 8), (.v 9)] <|
      (.ite (.v 10)
        (.op none .idx [(.v 7), (.v 8)] <|
        (.op none .idx [(.v 7), (.v 8)] <|
        (.op none (.proj 0) [(.v 12)] <|
        (.op none (.proj 1) [(.v 12)] <|
        (.op none (.proj 2) [(.v 12)] <|
        (.op none (.far .mul .f32) [(.v 13), (.v 2)] <|
        (.op none (.far .mul .f32) [(.v 14), (.v 2)] <|
        (.op none .idx [(.v 7), (.v 8)] <|
        (.op none .mkagg [(.v 16), (.v 17), (.v 15)] <|
        (.op none .set [(.v 7), (.v 8), (.v 19)] <|
        (.op none (.iar .add .i64) [(.v 8), (.c (.int 1))] <|
        (.out 0 [(.v 20), (.v 21)]))))))))))))
        (.out 1 [(.v 7), (.v 8), (.v 8), (.v 9), (.v 10)])))))
  (.out 0 [(.v 7), (.v 6), (.c (.bool true))]))))))
def S153sL0 (_G : Told) (x2 : D) : List D → Option (Nat × List D) := fun e7 =>
        (gev none .len [(e7.getD 0 .undef)]).bind fun x9 =>
        (gev none (.icm .lss) [(e7.getD 1 .undef), x9]).bind fun x10 =>
        tif x10 (
          (gev none .idx [(e7.getD 0 .undef), (e7.getD 1 .undef)]).bind fun _x11 =>
          (gev none .idx [(e7.getD 0 .undef), (e7.getD 1 .undef)]).bind fun x12 =>
          (gev none (.proj 0) [x12]).bind fun x13 =>
          (gev none (.proj 1) [x12]).bind fun x14 =>
          (gev none (.proj 2) [x12]).bind fun x15 =>
          (gev none (.far .mul .f32) [x13, x2]).bind fun x16 =>
          (gev none (.far .mul .f32) [x14, x2]).bind fun x17 =>
          (gev none .idx [(e7.getD 0 .undef), (e7.getD 1 .undef)]).bind fun _x18 =>
          (gev none .mkagg [x16, x17, x15]).bind fun x19 =>
          (gev none .set [(e7.getD 0 .undef), (e7.getD 1 .undef), x19]).bind fun x20 =>
          (gev none (.iar .add .i64) [(e7.getD 1 .undef), (.int 1)]).bind fun x21 =>
          some (0, [x20, x21])) (
          some (1, [(e7.getD 0 .undef), (e7.getD 1 .undef), (e7.getD 1 .undef), x9, x10]))
def S153s (G : Told) (fuel : Nat) (x0 x1 x2 : D) : Option (Nat × List D) :=
  (gcall G none 150 [x0, x1] 1).bind fun e3 =>
  (gev none .bnot [(e3.getD 0 .undef)]).bind fun x4 =>
  tif x4 (
    some (0, [(.lst []), (.lst []), (.bool false)])) (
    (gcall G none 151 [x0, x1] 2).bind fun e5 =>
    tjoin 5 (
      iter (tbody 2 (S153sL0 G x2)) fuel [(e5.getD 0 .undef), (.int 0)]) fun e7 =>
    some (0, [(e7.getD 0 .undef), (e5.getD 1 .undef), (.bool true)]))
theorem eq153s {G : Told} {fuel : Nat} (x0 x1 x2 : D) : run G fuel T153s [x0, x1, x2] = S153s G fuel x0 x1 x2 := by
  rw [run_eq]; kernel_rfl

def T154 : T :=
(.call none 153 [(.v 0), (.v 1), (.v 2)] 3 <|
(.out 0 [(.v 3), (.v 4), (.v 5)]))
def S154 (G : Told) (_fuel : Nat) (x0 x1 x2 : D) : Option (Nat × List D) :=
  (gcall G none 153 [x0, x1, x2] 3).bind fun e3 =>
  some (0, [(e3.getD 0 .undef), (e3.getD 1 .undef), (e3.getD 2 .undef)])
theorem eq154 {G : Told} {fuel : Nat} (x0 x1 x2 : D) : run G fuel T154 [x0, x1, x2] = S154 G fuel x0 x1 x2 := by
  rw [run_eq]; kernel_rfl

def T155 : T :=
(.call none 142 [(.v 0), (.v 1), (.c (.int 1048576))] 1 <|
(.op none (.icm .lss) [(.v 3), (.c (.int 0))] <|
(.ite (.v 4)
  (.out 0 [(.c (.bool true))])
  (.call none 145 [(.v 0), (.v 1)] 2 <|
  (.call none 153 [(.v 5), (.v 6), (.v 2)] 3 <|
  (.call none 145 [(.v 0), (.v 1)] 2 <|
  (.call none 154 [(.v 10), (.v 11), (.v 2)] 3 <|
  (.call none 146 [(.v 12), (.v 13), (.v 7), (.v 8)] 1 <|
  (.op none .bnot [(.v 15)] <|
  (.op (some ((.v 16), false)) .id [(.v 14)] <|
  (.op (some ((.v 16), false)) .id [(.v 9)] <|
  (.op (some ((.v 16), false)) .bne [(.v 17), (.v 18)] <|
  (.op none .pick [(.v 16), (.c (.bool true)), (.v 19)] <|
  (.ite (.v 20)
    (.out 0 [(.c (.bool false))])
    (.call none 145 [(.v 0), (.v 1)] 2 <|
    (.call none 146 [(.v 10), (.v 11), (.v 21), (.v 22)] 1 <|
    (.op none .bnot [(.v 23)] <|
    (.ite (.v 24)
      (.out 0 [(.c (.bool false))])
      (.call none 147 [(.v 10), (.v 11), (.c (.int 1))] 3 <|
      (.op none (.icm .lss) [(.v 25), (.c (.int 0))] <|
      (.call (some ((.v 28), false)) 146 [(.v 12), (.v 13), (.v 7), (.v 8)] 1 <|
      (.op (some ((.v 28), false)) .bnot [(.v 29)] <|
      (.op none .pick [(.v 28), (.c (.bool true)), (.v 30)] <|
      (.op (some ((.v 31), false)) .id [(.v 14)] <|
      (.op (some ((.v 31), false)) .id [(.v 9)] <|
      (.op (some ((.v 31), false)) .bne [(.v 32), (.v 33)] <|
      (.op none .pick [(.v 31), (.c (.bool true)), (.v 34)] <|
      (.ite (.v 35)
        (.out 0 [(.c (.bool false))])
        (.call none 147 [(.v 12), (.v 13), (.c (.int 1))] 3 <|
        (.call none 148 [(.v 37), (.v 38), (.c (.int 1))] 1 <|
        (.op none (.icm .lss) [(.v 39), (.c (.int 0))] <|
        (.ite (.v 40)
          (.out 0 [(.c (.bool false))])
          (.op none (.icm .neq) [(.v 39), (.v 36)] <|
          (.ite (.v 41)
            (.out 0 [(.c (.bool false))])
            (.call none 145 [(.v 0), (.v 1)] 2 <|
            (.call none 154 [(.v 42), (.v 43), (.v 2)] 3 <|
            (.call none 146 [(.v 44), (.v 45), (.v 7), (.v 8)] 1 <|
            (.op none .bnot [(.v 47)] <|
            (.op (some ((.v 48), false)) .id [(.v 46)] <|
            (.op (some ((.v 48), false)) .id [(.v 9)] <|
            (.op (some ((.v 48), false)) .bne [(.v 49), (.v 50)] <|
            (.op none .pick [(.v 48), (.c (.bool true)), (.v 51)] <|
            (.ite (.v 52)
              (.out 0 [(.c (.bool false))])
              (.call none 148 [(.v 37), (.v 38), (.c (.int 1))] 1 <|
              (.op none (.icm .lss) [(.v 53), (.c (.int 0))] <|
              (.ite (.v 54)
                (.out 0 [(.c (.bool false))])
                (.op none (.icm .neq) [(.v 53), (.v 36)] <|
                (.ite (.v 55)
                  (.out 0 [(.c (.bool false))])
                  (.out 0 [(.c (.bool true))])))))))))))))))))))))))))))))))))))))))))))))))))
def S155 (G : Told) (_fuel : Nat) (x0 x1 x2 : D) : Option (Nat × List D) :=
  (gcall G none 142 [x0, x1, (.int 1048576)] 1).bind fun e3 =>
  (gev none (.icm .lss) [(e3.getD 0 .undef), (.int 0)]).bind fun x4 =>
  tif x4 (
    some (0, [(.bool true)])) (
    (gcall G none 145 [x0, x1] 2).bind fun e5 =>
    (gcall G none 153 [(e5.getD 0 .undef), (e5.getD 1 .undef), x2] 3).bind fun e7 =>
    (gcall G none 145 [x0, x1] 2).bind fun e10 =>
    (gcall G none 154 [(e10.getD 0 .undef), (e10.getD 1 .undef), x2] 3).bind fun e12 =>
    (gcall G none 146 [(e12.getD 0 .undef), (e12.getD 1 .undef), (e7.getD 0 .undef), (e7.getD 1 .undef)] 1).bind fun e15 =>
    (gev none .bnot [(e15.getD 0 .undef)]).bind fun x16 =>
    (gev (some (x16, false)) .id [(e12.getD 2 .undef)]).bind fun x17 =>
    (gev (some (x16, false)) .id [(e7.getD 2 .undef)]).bind fun x18 =>
    (gev (some (x16, false)) .bne [x17, x18]).bind fun x19 =>
    (gev none .pick [x16, (.bool true), x19]).bind fun x20 =>
    tif x20 (
      some (0, [(.bool false)])) (
      (gcall G none 145 [x0, x1] 2).bind fun e21 =>
      (gcall G none 146 [(e10.getD 0 .undef), (e10.getD 1 .undef), (e21.getD 0 .undef), (e21.getD 1 .undef)] 1).bind fun e23 =>
      (gev none .bnot [(e23.getD 0 .undef)]).bind fun x24 =>
      tif x24 (
        some (0, [(.bool false)])) (
        (gcall G none 147 [(e10.getD 0 .undef), (e10.getD 1 .undef), (.int 1)] 3).bind fun e25 =>
        (gev none (.icm .lss) [(e25.getD 0 .undef), (.int 0)]).bind fun x28 =>
        (gcall G (some (x28, false)) 146 [(e12.getD 0 .undef), (e12.getD 1 .undef), (e7.getD 0 .undef), (e7.getD 1 .undef)] 1).bind fun e29 =>
        (gev (some (x28, false)) .bnot [(e29.getD 0 .undef)]).bind fun x30 =>
        (gev none .pick [x28, (.bool true), x30]).bind fun x31 =>
        (gev (some (x31, false)) .id [(e12.getD 2 .undef)]).bind fun x32 =>
        (gev (some (x31, false)) .id [(e7.getD 2 .undef)]).bind fun x33 =>
        (gev (some (x31, false)) .bne [x32, x33]).bind fun x34 =>
        (gev none .pick [x31, (.bool true), x34]).bind fun x35 =>
        tif x35 (
          some (0, [(.bool false)])) (
          (gcall G none 147 [(e12.getD 0 .undef), (e12.getD 1 .undef), (.int 1)] 3).bind fun e36 =>
          (gcall G none 148 [(e36.getD 1 .undef), (e36.getD 2 .undef), (.int 1)] 1).bind fun e39 =>
          (gev none (.icm .lss) [(e39.getD 0 .undef), (.int 0)]).bind fun x40 =>
          tif x40 (
            some (0, [(.bool false)])) (
            (gev none (.icm .neq) [(e39.getD 0 .undef), (e36.getD 0 .undef)]).bind fun x41 =>
            tif x41 (
              some (0, [(.bool false)])) (
              (gcall G none 145 [x0, x1] 2).bind fun e42 =>
              (gcall G none 154 [(e42.getD 0 .undef), (e42.getD 1 .undef), x2] 3).bind fun e44 =>
              (gcall G none 146 [(e44.getD 0 .undef), (e44.getD 1 .undef), (e7.getD 0 .undef), (e7.getD 1 .undef)] 1).bind fun e47 =>
              (gev none .bnot [(e47.getD 0 .undef)]).bind fun x48 =>
              (gev (some (x48, false)) .id [(e44.getD 2 .undef)]).bind fun x49 =>
              (gev (some (x48, false)) .id [(e7.getD 2 .undef)]).bind fun x50 =>
              (gev (some (x48, false)) .bne [x49, x50]).bind fun x51 =>
              (gev none .pick [x48, (.bool true), x51]).bind fun x52 =>
              tif x52 (
                some (0, [(.bool false)])) (
                (gcall G none 148 [(e36.getD 1 .undef), (e36.getD 2 .undef), (.int 1)] 1).bind fun e53 =>
                (gev none (.icm .lss) [(e53.getD 0 .undef), (.int 0)]).bind fun x54 =>
                tif x54 (
                  some (0, [(.bool false)])) (
                  (gev none (.icm .neq) [(e53.getD 0 .undef), (e36.getD 0 .undef)]).bind fun x55 =>
                  tif x55 (
                    some (0, [(.bool false)])) (
                    some (0, [(.bool true)]))))))))))
theorem eq155 {G : Told} {fuel : Nat} (x0 x1 x2 : D) : run G fuel T155 [x0, x1, x2] = S155 G fuel x0 x1 x2 := by
  rw [run_eq]; kernel_rfl

attribute [local irreducible] tif tjoin IntKind.wrap feq fadd fmul fsub fdiv fgt i2f sameP wide eqV vl il tl totL szM szP marksV marksT inr triP validP
set_option maxHeartbeats 4000000 in
theorem run152 {G : Told} : ∀ ds rs, F152 ds = some rs → ∃ fuel, run G fuel T152 ds = some (0, rs) := by
  intro ds rs h
  unfold F152 at h
  split at h <;> simp only [Option.some.injEq, reduceCtorEq] at h
  subst h
  refine ⟨0, ?_⟩
  rw [eq152]
  unfold S152
  repeat' first
    | with_reducible refine st_ift ?_
    | with_reducible refine st_iff ?_
    | ((with_reducible apply st_callt); assumption; exact rfl; exact rfl; assumption)
    | ((with_reducible apply st_callf); assumption; exact rfl; exact rfl; assumption)
    | ((with_reducible apply st_call); assumption; exact rfl; exact rfl; exact rfl)
    | ((with_reducible apply st_wide); exact rfl; exact rfl)
    | ((with_reducible apply st_skip); exact rfl)
    | ((with_reducible apply st_t); exact rfl; exact rfl)
    | ((with_reducible apply st_f); exact rfl; exact rfl)
    | ((with_reducible apply st_t); exact rfl; assumption)
    | ((with_reducible apply st_f); exact rfl; assumption)
    | ((with_reducible apply st_some); exact rfl)
    | exact rfl
set_option maxHeartbeats 4000000 in
theorem run153 {G : Told} (g152 : G 152 = F152) (g150 : G 150 = F150) (g151 : G 151 = F151) : ∀ ds rs, F153 ds = some rs → ∃ fuel, run G fuel T153 ds = some (0, rs) := by
  intro ds rs h
  unfold F153 at h
  split at h
  case h_2 => cases h
  rename_i a b k
  obtain ⟨vs, ha, h⟩ := Option.bind_eq_some_iff.1 h
  obtain ⟨ts, hb, h⟩ := Option.bind_eq_some_iff.1 h
  rw [dV_inv ha, dT_inv hb]
  split at h
  case isFalse => cases h
  rename_i hc
  simp only [Option.some.injEq] at h
  subst h
  have hz : szM vs ts = vs.length + ts.length + totL ts := by unfold szM; rfl
  refine ⟨vs.length + 1, ?_⟩
  rw [eq153]
  unfold S153
  have hv := F150_m hc
  have hn := len_vl (l := vs)
  rw [vl_nil, tl_nil]
  have hcp : F151 [vl vs, tl ts] = some [vl vs, tl ts] := F145_m hc
  cases hval : validP vs.length ts
  case false =>
    rw [hval] at hv
    rw [if_neg (by simp)]
    repeat' first
      | with_reducible refine st_ift ?_
      | with_reducible refine st_iff ?_
      | ((with_reducible apply st_call); exact g150; exact rfl; exact hv; exact rfl)
      | ((with_reducible apply st_call); exact g151; exact rfl; exact hcp; exact rfl)
      | ((with_reducible apply st_callt); assumption; exact rfl; exact rfl; assumption)
      | ((with_reducible apply st_callf); assumption; exact rfl; exact rfl; assumption)
      | ((with_reducible apply st_call); assumption; exact rfl; exact rfl; exact rfl)
      | ((with_reducible apply st_wide); exact rfl; exact rfl)
      | ((with_reducible apply st_skip); exact rfl)
      | ((with_reducible apply st_t); exact rfl; exact rfl)
      | ((with_reducible apply st_f); exact rfl; exact rfl)
      | ((with_reducible apply st_t); exact rfl; assumption)
      | ((with_reducible apply st_f); exact rfl; assumption)
      | ((with_reducible apply st_some); exact rfl)
      | exact rfl
  rw [hval] at hv
  rw [if_pos rfl]
  have hlm := shrL_length k vs
  have hloop : iter (tbody 2 (S153L0 G (.flt k) (.int (vs.length : Int)))) (vs.length + 1) [vl vs, .int 0] = some (0, [vl (shrL k vs), .int (vs.length : Int), .bool false]) := by
    have h1 := iter_upto (body := tbody 2 (S153L0 G (.flt k) (.int (vs.length : Int)))) (n := vs.length) (l := 0) (ds := [vl (shrL k vs), .int (vs.length : Int), .bool false])
      (fun i => [vl ((shrL k vs).take i ++ vs.drop i), .int (i : Int)]) ?_ ?_
    · simpa using h1
    · intro i hi
      refine tb rfl ?_
      have hml := mix_len (a := shrL k vs) (b := vs) (i := i) hlm (by omega)
      have hms := mix_set (a := shrL k vs) (b := vs) (i := i) hlm (by omega)
      rw [shrL_get hi] at hms
      obtain ⟨h', hmg⟩ := mix_get (a := shrL k vs) (b := vs) (i := i) hlm hi
      have hn := len_vl (l := (shrL k vs).take i ++ vs.drop i)
      rw [hml] at hn
      have h0 : decide ((i : Int) < (vs.length : Int)) = true := by simpa using hi
      have hx := idx_vl h'
      rw [hmg] at hx
      have hs := set_vl (l := (shrL k vs).take i ++ vs.drop i) (i := i) (v := shrV k vs[i]) (by omega)
      rw [hms] at hs
      have hs : gev none .set [vl ((shrL k vs).take i ++ vs.drop i), .int i, .agg [.flt (fmul .f32 vs[i].x k), .flt (fmul .f32 vs[i].y k), .flt vs[i].z]] = some (vl ((shrL k vs).take (i + 1) ++ vs.drop (i + 1))) := hs
      generalize vl ((shrL k vs).take i ++ vs.drop i) = l1 at hn hx hs
      generalize vl ((shrL k vs).take (i + 1) ++ vs.drop (i + 1)) = l2 at hs
      have ha := add1n (i := i) (by omega)
      have hf : F152 [.flt vs[i].x, .flt vs[i].y, .flt vs[i].z, .flt k] = some [.flt (fmul .f32 vs[i].x k), .flt (fmul .f32 vs[i].y k), .flt vs[i].z] := rfl
      unfold S153L0
      repeat' first
        | with_reducible refine st_ift ?_
        | with_reducible refine st_iff ?_
        | ((with_reducible apply st_call); exact g152; exact rfl; exact hf; exact rfl)
        | ((with_reducible apply st_some); exact hx)
        | ((with_reducible apply st_some); exact hs)
        | ((with_reducible apply st_some); exact ha)
        | ((with_reducible apply st_callt); assumption; exact rfl; exact rfl; assumption)
        | ((with_reducible apply st_callf); assumption; exact rfl; exact rfl; assumption)
        | ((with_reducible apply st_call); assumption; exact rfl; exact rfl; exact rfl)
        | ((with_reducible apply st_wide); exact rfl; exact rfl)
        | ((with_reducible apply st_skip); exact rfl)
        | ((with_reducible apply st_t); exact rfl; exact rfl)
        | ((with_reducible apply st_f); exact rfl; exact rfl)
        | ((with_reducible apply st_t); exact rfl; assumption)
        | ((with_reducible apply st_f); exact rfl; assumption)
        | ((with_reducible apply st_some); exact rfl)
        | exact rfl
    · refine tb rfl ?_
      have h0 : decide ((vs.length : Int) < (vs.length : Int)) = false := by simp
      have e : (shrL k vs).take vs.length ++ vs.drop vs.length = shrL k vs := by simp [List.take_of_length_le, hlm]
      rw [e]
      have hn := len_vl (l := shrL k vs)
      rw [hlm] at hn
      unfold S153L0
      repeat' first
        | with_reducible refine st_ift ?_
        | with_reducible refine st_iff ?_
        | ((with_reducible apply st_callt); assumption; exact rfl; exact rfl; assumption)
        | ((with_reducible apply st_callf); assumption; exact rfl; exact rfl; assumption)
        | ((with_reducible apply st_call); assumption; exact rfl; exact rfl; exact rfl)
        | ((with_reducible apply st_wide); exact rfl; exact rfl)
        | ((with_reducible apply st_skip); exact rfl)
        | ((with_reducible apply st_t); exact rfl; exact rfl)
        | ((with_reducible apply st_f); exact rfl; exact rfl)
        | ((with_reducible apply st_t); exact rfl; assumption)
        | ((with_reducible apply st_f); exact rfl; assumption)
        | ((with_reducible apply st_some); exact rfl)
        | exact rfl
  repeat' first
    | with_reducible refine st_ift ?_
    | with_reducible refine st_iff ?_
    | ((with_reducible apply st_join); exact hloop; exact rfl)
    | ((with_reducible apply st_call); exact g150; exact rfl; exact hv; exact rfl)
    | ((with_reducible apply st_call); exact g151; exact rfl; exact hcp; exact rfl)
    | ((with_reducible apply st_some); exact hn)
    | ((with_reducible apply st_callt); assumption; exact rfl; exact rfl; assumption)
    | ((with_reducible apply st_callf); assumption; exact rfl; exact rfl; assumption)
    | ((with_reducible apply st_call); assumption; exact rfl; exact rfl; exact rfl)
    | ((with_reducible apply st_wide); exact rfl; exact rfl)
    | ((with_reducible apply st_skip); exact rfl)
    | ((with_reducible apply st_t); exact rfl; exact rfl)
    | ((with_reducible apply st_f); exact rfl; exact rfl)
    | ((with_reducible apply st_t); exact rfl; assumption)
    | ((with_reducible apply st_f); exact rfl; assumption)
    | ((with_reducible apply st_some); exact rfl)
    | exact rfl
set_option maxHeartbeats 4000000 in
theorem run153s {G : Told} (g150 : G 150 = F150) (g151 : G 151 = F151) : ∀ ds rs, F153 ds = some rs → ∃ fuel, run G fuel T153s ds = some (0, rs) := by
  intro ds rs h
  unfold F153 at h
  split at h
  case h_2 => cases h
  rename_i a b k
  obtain ⟨vs, ha, h⟩ := Option.bind_eq_some_iff.1 h
  obtain ⟨ts, hb, h⟩ := Option.bind_eq_some_iff.1 h
  rw [dV_inv ha, dT_inv hb]
  split at h
  case isFalse => cases h
  rename_i hc
  simp only [Option.some.injEq] at h
  subst h
  have hz : szM vs ts = vs.length + ts.length + totL ts := by unfold szM; rfl
  refine ⟨vs.length + 1, ?_⟩
  rw [eq153s]
  unfold S153s
  have hv := F150_m hc
  have hn := len_vl (l := vs)
  rw [vl_nil, tl_nil]
  have hcp : F151 [vl vs, tl ts] = some [vl vs, tl ts] := F145_m hc
  cases hval : validP vs.length ts
  case false =>
    rw [hval] at hv
    rw [if_neg (by simp)]
    repeat' first
      | with_reducible refine st_ift ?_
      | with_reducible refine st_iff ?_
      | ((with_reducible apply st_call); exact g150; exact rfl; exact hv; exact rfl)
      | ((with_reducible apply st_call); exact g151; exact rfl; exact hcp; exact rfl)
      | ((with_reducible apply st_callt); assumption; exact rfl; exact rfl; assumption)
      | ((with_reducible apply st_callf); assumption; exact rfl; exact rfl; assumption)
      | ((with_reducible apply st_call); assumption; exact rfl; exact rfl; exact rfl)
      | ((with_reducible apply st_wide); exact rfl; exact rfl)
      | ((with_reducible apply st_skip); exact rfl)
      | ((with_reducible apply st_t); exact rfl; exact rfl)
      | ((with_reducible apply st_f); exact rfl; exact rfl)
      | ((with_reducible apply st_t); exact rfl; assumption)
      | ((with_reducible apply st_f); exact rfl; assumption)
      | ((with_reducible apply st_some); exact rfl)
      | exact rfl
  rw [hval] at hv
  rw [if_pos rfl]
  have hlm := shrL_length k vs
  have hloop : iter (tbody 2 (S153sL0 G (.flt k))) (vs.length + 1) [vl vs, .int 0] = some (0, [vl (shrL k vs), .int (vs.length : Int), .int (vs.length : Int), .int (vs.length : Int), .bool false]) := by
    have h1 := iter_upto (body := tbody 2 (S153sL0 G (.flt k))) (n := vs.length) (l := 0) (ds := [vl (shrL k vs), .int (vs.length : Int), .int (vs.length : Int), .int (vs.length : Int), .bool false])
      (fun i => [vl ((shrL k vs).take i ++ vs.drop i), .int (i : Int)]) ?_ ?_
    · simpa using h1
    · intro i hi
      refine tb rfl ?_
      have hml := mix_len (a := shrL k vs) (b := vs) (i := i) hlm (by omega)
      have hms := mix_set (a := shrL k vs) (b := vs) (i := i) hlm (by omega)
      rw [shrL_get hi] at hms
      obtain ⟨h', hmg⟩ := mix_get (a := shrL k vs) (b := vs) (i := i) hlm hi
      have hn := len_vl (l := (shrL k vs).take i ++ vs.drop i)
      rw [hml] at hn
      have h0 : decide ((i : Int) < (vs.length : Int)) = true := by simpa using hi
      have hx := idx_vl h'
      rw [hmg] at hx
      have hs := set_vl (l := (shrL k vs).take i ++ vs.drop i) (i := i) (v := shrV k vs[i]) (by omega)
      rw [hms] at hs
      have hs : gev none .set [vl ((shrL k vs).take i ++ vs.drop i), .int i, .agg [.flt (fmul .f32 vs[i].x k), .flt (fmul .f32 vs[i].y k), .flt vs[i].z]] = some (vl ((shrL k vs).take (i + 1) ++ vs.drop (i + 1))) := hs
      generalize vl ((shrL k vs).take i ++ vs.drop i) = l1 at hn hx hs
      generalize vl ((shrL k vs).take (i + 1) ++ vs.drop (i + 1)) = l2 at hs
      have ha := add1n (i := i) (by omega)
      have hf : F152 [.flt vs[i].x, .flt vs[i].y, .flt vs[i].z, .flt k] = some [.flt (fmul .f32 vs[i].x k), .flt (fmul .f32 vs[i].y k), .flt vs[i].z] := rfl
      unfold S153sL0
      repeat' first
        | with_reducible refine st_ift ?_
        | with_reducible refine st_iff ?_
        | ((with_reducible apply st_some); exact hx)
        | ((with_reducible apply st_some); exact hs)
        | ((with_reducible apply st_some); exact ha)
        | ((with_reducible apply st_some); exact hn)
        | ((with_reducible apply st_callt); assumption; exact rfl; exact rfl; assumption)
        | ((with_reducible apply st_callf); assumption; exact rfl; exact rfl; assumption)
        | ((with_reducible apply st_call); assumption; exact rfl; exact rfl; exact rfl)
        | ((with_reducible apply st_wide); exact rfl; exact rfl)
        | ((with_reducible apply st_skip); exact rfl)
        | ((with_reducible apply st_t); exact rfl; exact rfl)
        | ((with_reducible apply st_f); exact rfl; exact rfl)
        | ((with_reducible apply st_t); exact rfl; assumption)
        | ((with_reducible apply st_f); exact rfl; assumption)
        | ((with_reducible apply st_some); exact rfl)
        | exact rfl
    · refine tb rfl ?_
      have h0 : decide ((vs.length : Int) < (vs.length : Int)) = false := by simp
      have e : (shrL k vs).take vs.length ++ vs.drop vs.length = shrL k vs := by simp [List.take_of_length_le, hlm]
      rw [e]
      have hn := len_vl (l := shrL k vs)
      rw [hlm] at hn
      unfold S153sL0
      repeat' first
        | with_reducible refine st_ift ?_
        | with_reducible refine st_iff ?_
        | ((with_reducible apply st_some); exact hn)
        | ((with_reducible apply st_callt); assumption; exact rfl; exact rfl; assumption)
        | ((with_reducible apply st_callf); assumption; exact rfl; exact rfl; assumption)
        | ((with_reducible apply st_call); assumption; exact rfl; exact rfl; exact rfl)
        | ((with_reducible apply st_wide); exact rfl; exact rfl)
        | ((with_reducible apply st_skip); exact rfl)
        | ((with_reducible apply st_t); exact rfl; exact rfl)
        | ((with_reducible apply st_f); exact rfl; exact rfl)
        | ((with_reducible apply st_t); exact rfl; assumption)
        | ((with_reducible apply st_f); exact rfl; assumption)
        | ((with_reducible apply st_some); exact rfl)
        | exact rfl
  repeat' first
    | with_reducible refine st_ift ?_
    | with_reducible refine st_iff ?_
    | ((with_reducible apply st_join); exact hloop; exact rfl)
    | ((with_reducible apply st_call); exact g150; exact rfl; exact hv; exact rfl)
    | ((with_reducible apply st_call); exact g151; exact rfl; exact hcp; exact rfl)
    | ((with_reducible apply st_some); exact hn)
    | ((with_reducible apply st_callt); assumption; exact rfl; exact rfl; assumption)
    | ((with_reducible apply st_callf); assumption; exact rfl; exact rfl; assumption)
    | ((with_reducible apply st_call); assumption; exact rfl; exact rfl; exact rfl)
    | ((with_reducible apply st_wide); exact rfl; exact rfl)
    | ((with_reducible apply st_skip); exact rfl)
    | ((with_reducible apply st_t); exact rfl; exact rfl)
    | ((with_reducible apply st_f); exact rfl; exact rfl)
    | ((with_reducible apply st_t); exact rfl; assumption)
    | ((with_reducible apply st_f); exact rfl; assumption)
    | ((with_reducible apply st_some); exact rfl)
    | exact rfl
set_option maxHeartbeats 4000000 in
theorem run154 {G : Told} (g153 : G 153 = F153) : ∀ ds rs, F154 ds = some rs → ∃ fuel, run G fuel T154 ds = some (0, rs) := by
  intro ds rs h
  unfold F154 F153 at h
  split at h
  case h_2 => cases h
  rename_i a b k
  obtain ⟨vs, ha, h⟩ := Option.bind_eq_some_iff.1 h
  obtain ⟨ts, hb, h⟩ := Option.bind_eq_some_iff.1 h
  rw [dV_inv ha, dT_inv hb]
  split at h
  case isFalse => cases h
  rename_i hc
  simp only [Option.some.injEq] at h
  subst h
  refine ⟨0, ?_⟩
  rw [eq154]
  unfold S154
  have hf := F153_m (k := k) hc
  cases hval : validP vs.length ts
  · rw [hval, if_neg (by simp)] at hf
    rw [if_neg (by simp)]
    repeat' first
      | with_reducible refine st_ift ?_
      | with_reducible refine st_iff ?_
      | ((with_reducible apply st_call); exact g153; exact rfl; exact hf; exact rfl)
      | ((with_reducible apply st_callt); assumption; exact rfl; exact rfl; assumption)
      | ((with_reducible apply st_callf); assumption; exact rfl; exact rfl; assumption)
      | ((with_reducible apply st_call); assumption; exact rfl; exact rfl; exact rfl)
      | ((with_reducible apply st_wide); exact rfl; exact rfl)
      | ((with_reducible apply st_skip); exact rfl)
      | ((with_reducible apply st_t); exact rfl; exact rfl)
      | ((with_reducible apply st_f); exact rfl; exact rfl)
      | ((with_reducible apply st_t); exact rfl; assumption)
      | ((with_reducible apply st_f); exact rfl; assumption)
      | ((with_reducible apply st_some); exact rfl)
      | exact rfl
  · rw [hval, if_pos rfl] at hf
    rw [if_pos rfl]
    repeat' first
      | with_reducible refine st_ift ?_
      | with_reducible refine st_iff ?_
      | ((with_reducible apply st_call); exact g153; exact rfl; exact hf; exact rfl)
      | ((with_reducible apply st_callt); assumption; exact rfl; exact rfl; assumption)
      | ((with_reducible apply st_callf); assumption; exact rfl; exact rfl; assumption)
      | ((with_reducible apply st_call); assumption; exact rfl; exact rfl; exact rfl)
      | ((with_reducible apply st_wide); exact rfl; exact rfl)
      | ((with_reducible apply st_skip); exact rfl)
      | ((with_reducible apply st_t); exact rfl; exact rfl)
      | ((with_reducible apply st_f); exact rfl; exact rfl)
      | ((with_reducible apply st_t); exact rfl; assumption)
      | ((with_reducible apply st_f); exact rfl; assumption)
      | ((with_reducible apply st_some); exact rfl)
      | exact rfl
set_option maxHeartbeats 4000000 in
theorem run155 {G : Told} (g142 : G 142 = F142) (g145 : G 145 = F145) (g146 : G 146 = F146) (g147 : G 147 = F147) (g148 : G 148 = F148) (g153 : G 153 = F153) (g154 : G 154 = F154) : ∀ ds rs, F155 ds = some rs → ∃ fuel, run G fuel T155 ds = some (0, rs) := by
  intro ds rs h
  unfold F155 at h
  split at h
  case h_2 => cases h
  rename_i a b k
  obtain ⟨vs, ha, h⟩ := Option.bind_eq_some_iff.1 h
  obtain ⟨ts, hb, h⟩ := Option.bind_eq_some_iff.1 h
  rw [dV_inv ha, dT_inv hb]
  split at h
  case isFalse => cases h
  rename_i hc
  simp only [Option.some.injEq] at h
  subst h
  refine ⟨0, ?_⟩
  rw [eq155]
  unfold S155
  have z1 := F142_m hc
  by_cases hsz : szM vs ts ≤ 1048576
  case neg =>
    rw [szP_neg hsz] at z1
    repeat' first
      | with_reducible refine st_ift ?_
      | with_reducible refine st_iff ?_
      | ((with_reducible apply st_call); exact g142; exact rfl; exact z1; exact rfl)
      | ((with_reducible apply st_callt); assumption; exact rfl; exact rfl; assumption)
      | ((with_reducible apply st_callf); assumption; exact rfl; exact rfl; assumption)
      | ((with_reducible apply st_call); assumption; exact rfl; exact rfl; exact rfl)
      | ((with_reducible apply st_wide); exact rfl; exact rfl)
      | ((with_reducible apply st_skip); exact rfl)
      | ((with_reducible apply st_t); exact rfl; exact rfl)
      | ((with_reducible apply st_f); exact rfl; exact rfl)
      | ((with_reducible apply st_t); exact rfl; assumption)
      | ((with_reducible apply st_f); exact rfl; assumption)
      | ((with_reducible apply st_some); exact rfl)
      | exact rfl
  rw [szP_pos hsz] at z1
  have d1 : decide ((1048576 : Int) - (szM vs ts : Nat) < 0) = false := by simp; omega
  have hz : szM vs ts = vs.length + ts.length + totL ts := by unfold szM; rfl
  have t1 := F145_m hsz
  have q1 := F146_m hsz
  have m1 := F147_m (m := 1) hsz (by omega) (by omega)
  have d3 : decide ((1 : Int) + 3 * vs.length + totL ts < 0) = false := by simp; omega
  have hr : ∃ us ss b, F153 [vl vs, tl ts, .flt k] = some [vl us, tl ss, .bool b] ∧ szM us ss ≤ 1048576 := by
    rw [F153_m hsz]
    split
    · exact ⟨_, _, _, rfl, by unfold szM at hsz ⊢; rw [shrL_length]; exact hsz⟩
    · exact ⟨_, _, _, rfl, by unfold szM totL; simp⟩
  obtain ⟨us, ss, b, hr, hu⟩ := hr
  have hzu : szM us ss = us.length + ss.length + totL ss := by unfold szM; rfl
  have q3 := F146_m hu
  have m3 := F147_m (m := 1) hu (by omega) (by omega)
  have n3 := F148_m (m := 1) hu (by omega) (by omega)
  have d4 : decide ((1 : Int) + 3 * us.length + totL ss < 0) = false := by simp; omega
  have d5 : ((1 : Int) + 3 * us.length + totL ss != 1 + 3 * us.length + totL ss) = false := by simp
  cases b
  · repeat' first
      | with_reducible refine st_ift ?_
      | with_reducible refine st_iff ?_
      | ((with_reducible apply st_call); exact g142; exact rfl; exact z1; exact rfl)
      | ((with_reducible apply st_call); exact g153; exact rfl; exact hr; exact rfl)
      | ((with_reducible apply st_call); exact g154; exact rfl; exact hr; exact rfl)
      | ((with_reducible apply st_call); exact g145; exact rfl; exact t1; exact rfl)
      | ((with_reducible apply st_call); exact g146; exact rfl; exact q1; exact rfl)
      | ((with_reducible apply st_call); exact g146; exact rfl; exact q3; exact rfl)
      | ((with_reducible apply st_call); exact g147; exact rfl; exact m1; exact rfl)
      | ((with_reducible apply st_call); exact g147; exact rfl; exact m3; exact rfl)
      | ((with_reducible apply st_call); exact g148; exact rfl; exact n3; exact rfl)
      | ((with_reducible apply st_callt); assumption; exact rfl; exact rfl; assumption)
      | ((with_reducible apply st_callf); assumption; exact rfl; exact rfl; assumption)
      | ((with_reducible apply st_call); assumption; exact rfl; exact rfl; exact rfl)
      | ((with_reducible apply st_wide); exact rfl; exact rfl)
      | ((with_reducible apply st_skip); exact rfl)
      | ((with_reducible apply st_t); exact rfl; exact rfl)
      | ((with_reducible apply st_f); exact rfl; exact rfl)
      | ((with_reducible apply st_t); exact rfl; assumption)
      | ((with_reducible apply st_f); exact rfl; assumption)
      | ((with_reducible apply st_some); exact rfl)
      | exact rfl
  · repeat' first
      | with_reducible refine st_ift ?_
      | with_reducible refine st_iff ?_
      | ((with_reducible apply st_call); exact g142; exact rfl; exact z1; exact rfl)
      | ((with_reducible apply st_call); exact g153; exact rfl; exact hr; exact rfl)
      | ((with_reducible apply st_call); exact g154; exact rfl; exact hr; exact rfl)
      | ((with_reducible apply st_call); exact g145; exact rfl; exact t1; exact rfl)
      | ((with_reducible apply st_call); exact g146; exact rfl; exact q1; exact rfl)
      | ((with_reducible apply st_call); exact g146; exact rfl; exact q3; exact rfl)
      | ((with_reducible apply st_call); exact g147; exact rfl; exact m1; exact rfl)
      | ((with_reducible apply st_call); exact g147; exact rfl; exact m3; exact rfl)
      | ((with_reducible apply st_call); exact g148; exact rfl; exact n3; exact rfl)
      | ((with_reducible apply st_callt); assumption; exact rfl; exact rfl; assumption)
      | ((with_reducible apply st_callf); assumption; exact rfl; exact rfl; assumption)
      | ((with_reducible apply st_call); assumption; exact rfl; exact rfl; exact rfl)
      | ((with_reducible apply st_wide); exact rfl; exact rfl)
      | ((with_reducible apply st_skip); exact rfl)
      | ((with_reducible apply st_t); exact rfl; exact rfl)
      | ((with_reducible apply st_f); exact rfl; exact rfl)
      | ((with_reducible apply st_t); exact rfl; assumption)
      | ((with_reducible apply st_f); exact rfl; assumption)
      | ((with_reducible apply st_some); exact rfl)
      | exact rfl

/-! ### Arguments -/
theorem fitsd_vl {W : World} {cs : List CT} {xs : List D} (h : FitsD W (.s1 eV :: cs) xs) : ∃ vs ys, xs = vl vs :: ys ∧ vs.length < 9223372036854775808 ∧ FitsD W cs ys := by
  match xs, h with
  | d :: ds, ⟨⟨v, ls, hd, hr⟩, hs, _, h⟩ =>
    have : ∃ vs : List V3, ls.map (unflat true) = vs.map vec := by
      rcases hr with ⟨_, rfl⟩ | ⟨_, _, _, xs, _, _, _, _, hr⟩
      · exact ⟨[], rfl⟩
      · exact vl_of_rows hr
    obtain ⟨vs, hv⟩ := this
    have e : d = vl vs := by rw [hd, show eV.agg = true from rfl, hv]; unfold vl; rfl
    have h1 := hs _ (by rw [e]; unfold vl; rfl)
    refine ⟨vs, ds, by rw [e], ?_, h⟩
    simp [maxLen] at h1
    omega
theorem il_of_rows : ∀ {ls : List (List D)} {xs : List Value}, RdRow RdB [i8] xs ls → ∃ l : List Int, ls.map (unflat false) = l.map D.int
  | [], _, _ => ⟨[], rfl⟩
  | _ :: _, _, ⟨_, _, _, a, b⟩ => by
    obtain ⟨_, hd⟩ := a.length
    obtain ⟨l, hl⟩ := il_of_rows b
    obtain ⟨_, d, _, e, q, _, h⟩ := a.get (j := 0) rfl
    refine ⟨q :: l, ?_⟩
    rw [List.map_cons, hl, List.map_cons]
    congr 1
    simp only [unflat]
    rw [List.headD_eq_head?_getD, List.head?_eq_getElem?, e, h]
    rfl
theorem il_of_sl {W : World} {F : Nat → Prop} {v : Value} {d : D} (h : RdSl W F (rr1 ei) false v d) : ∃ l : List Int, d = il l := by
  obtain ⟨ls, hd, hr⟩ := h
  have : ∃ l : List Int, ls.map (unflat false) = l.map D.int := by
    rcases hr with ⟨_, rfl⟩ | ⟨_, _, _, xs, _, _, _, _, hr⟩
    · exact ⟨[], rfl⟩
    · exact il_of_rows hr
  obtain ⟨l, hl⟩ := this
  exact ⟨l, by rw [hd, hl]; unfold il; rfl⟩
theorem tl_of_rows {W : World} {F : Nat → Prop} : ∀ {ls : List (List D)} {xs : List Value}, RdRow (fun (_ : Unit) v d => RdSl W F (rr1 ei) false v d) [()] xs ls → ∃ l : List (List Int), ls.map (unflat false) = l.map il
  | [], _, _ => ⟨[], rfl⟩
  | _ :: _, _, ⟨_, _, _, a, b⟩ => by
    obtain ⟨l, hl⟩ := tl_of_rows b
    obtain ⟨_, d, _, e, h⟩ := a.get (j := 0) rfl
    obtain ⟨t, ht⟩ := il_of_sl h
    refine ⟨t :: l, ?_⟩
    rw [List.map_cons, hl, List.map_cons]
    congr 1
    simp only [unflat]
    rw [List.headD_eq_head?_getD, List.head?_eq_getElem?, e, ht]
    rfl
theorem fitsd_tl {W : World} {cs : List CT} {xs : List D} (h : FitsD W (.s2 ei :: cs) xs) : ∃ ts ys, xs = tl ts :: ys ∧ (ts.length < 9223372036854775808 ∧ ∀ t ∈ ts, t.length < 9223372036854775808) ∧ FitsD W cs ys := by
  match xs, h with
  | d :: ds, ⟨⟨v, ls, hd, hr⟩, hs, hq, h⟩ =>
    have : ∃ ts : List (List Int), ls.map (unflat false) = ts.map il := by
      rcases hr with ⟨_, rfl⟩ | ⟨_, _, _, xs, _, _, _, _, hr⟩
      · exact ⟨[], rfl⟩
      · exact tl_of_rows hr
    obtain ⟨ts, hv⟩ := this
    have e : d = tl ts := by rw [hd, hv]; unfold tl; rfl
    have h1 := hs _ (by rw [e]; unfold tl; rfl)
    refine ⟨ts, ds, by rw [e], ⟨?_, fun t ht => ?_⟩, h⟩
    · simp [maxLen] at h1
      omega
    · have h2 := hq _ (by rw [e]; unfold tl; rfl) (il t) (List.mem_map.2 ⟨t, ht, rfl⟩) (t.map .int) (by unfold il; rfl)
      simp [maxLen] at h2
      omega
theorem fitsd_flt {W : World} {k : FloatKind} {cs : List CT} {xs : List D} (h : FitsD W (.b (.flt k) :: cs) xs) : ∃ x ys, xs = .flt x :: ys ∧ FitsD W cs ys := by
  match xs, h with
  | d :: ds, ⟨⟨v, _, _, hd⟩, _, _, h⟩ => exact ⟨_, ds, by rw [hd], h⟩
theorem fitsd_int {W : World} {k : IntKind} {cs : List CT} {xs : List D} (h : FitsD W (.b (.int k) :: cs) xs) : ∃ x ys, xs = .int x :: ys ∧ FitsD W cs ys := by
  match xs, h with
  | d :: ds, ⟨⟨v, _, _, hd⟩, _, _, h⟩ => exact ⟨_, ds, by rw [hd], h⟩
theorem fitsd_nil {W : World} {xs : List D} (h : FitsD W [] xs) : xs = [] := by
  cases xs with
  | nil => rfl
  | cons d ds => cases h

end Vs
