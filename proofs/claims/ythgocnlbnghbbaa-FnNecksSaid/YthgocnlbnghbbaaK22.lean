/-
  Meshes of one form: what the functions answer where the triangles are the same.
-/
import Derived.Test.YthgocnlbnghbbaaK21
namespace Vs
open Go

noncomputable def F484 : List D → Option (List D)
  | [a, b] => (dI a).bind fun l => (dI b).bind fun m => if l = m ∧ l.length ≤ 1000000 then some [.bool true] else none
  | _ => none
noncomputable def F483 : List D → Option (List D) := F484
noncomputable def F482 : List D → Option (List D)
  | [a, b] => (dT a).bind fun l => (dT b).bind fun m => if l = m ∧ l.length + totL l ≤ 1000000 then some [.bool true] else none
  | _ => none
noncomputable def F481 : List D → Option (List D) := F482
noncomputable def F480 : List D → Option (List D)
  | [a, b, c, d] => (dV a).bind fun vs => (dT b).bind fun ts => (dV c).bind fun us => (dT d).bind fun ss =>
    if ts = ss ∧ us.length = vs.length ∧ szM vs ts ≤ 1000000 ∧ validP vs.length ts = true then some [.bool true] else none
  | _ => none
theorem F484_m {l : List Int} (h : l.length ≤ 1000000) : F484 [il l, il l] = some [.bool true] := by simp [F484, dI_il, h]
theorem F482_m {l : List (List Int)} (h : l.length + totL l ≤ 1000000) : F482 [tl l, tl l] = some [.bool true] := by simp [F482, dT_tl, h]
theorem F480_m {vs us : List V3} {ts : List (List Int)} (h : us.length = vs.length) (hz : szM vs ts ≤ 1000000) (hv : validP vs.length ts = true) : F480 [vl vs, tl ts, vl us, tl ts] = some [.bool true] := by
  simp [F480, dT_tl, dV_vl, h, hz, hv]

def T484 : T :=
(.op none .len [(.v 0)] <|
(.op none .len [(.v 1)] <|
(.op none (.icm .neq) [(.v 2), (.v 3)] <|
(.ite (.v 4)
  (.out 0 [(.c (.bool false))])
  (.op none .len [(.v 0)] <|
  (.join 2
    (.loop [(.c (.int 0))]
      (.op none (.icm .lss) [(.v 6), (.v 5)] <|
      (.ite (.v 7)
        (.op none .idx [(.v 0), (.v 6)] <|
        (.op none .idx [(.v 1), (.v 6)] <|
        (.op none (.icm .neq) [(.v 8), (.v 9)] <|
        (.ite (.v 10)
          (.out 2 [(.c (.bool false))])
          (.op none (.iar .add .i64) [(.v 6), (.c (.int 1))] <|
          (.out 0 [(.v 11)]))))))
        (.out 1 [(.v 6), (.v 7)]))))
  (.out 0 [(.c (.bool true))])))))))
def S484L0 (_G : Told) (x0 : D) (x1 : D) (x5 : D) : List D → Option (Nat × List D) := fun e6 =>
        (gev none (.icm .lss) [(e6.getD 0 .undef), x5]).bind fun x7 =>
        tif x7 (
          (gev none .idx [x0, (e6.getD 0 .undef)]).bind fun x8 =>
          (gev none .idx [x1, (e6.getD 0 .undef)]).bind fun x9 =>
          (gev none (.icm .neq) [x8, x9]).bind fun x10 =>
          tif x10 (
            some (2, [(.bool false)])) (
            (gev none (.iar .add .i64) [(e6.getD 0 .undef), (.int 1)]).bind fun x11 =>
            some (0, [x11]))) (
          some (1, [(e6.getD 0 .undef), x7]))
def S484 (G : Told) (fuel : Nat) (x0 x1 : D) : Option (Nat × List D) :=
  (gev none .len [x0]).bind fun x2 =>
  (gev none .len [x1]).bind fun x3 =>
  (gev none (.icm .neq) [x2, x3]).bind fun x4 =>
  tif x4 (
    some (0, [(.bool false)])) (
    (gev none .len [x0]).bind fun x5 =>
    tjoin 2 (
      iter (tbody 1 (S484L0 G x0 x1 x5)) fuel [(.int 0)]) fun _e6 =>
    some (0, [(.bool true)]))
theorem eq484 {G : Told} {fuel : Nat} (x0 x1 : D) : run G fuel T484 [x0, x1] = S484 G fuel x0 x1 := by
  rw [run_eq]; kernel_rfl

def T483 : T :=
(.call none 484 [(.v 0), (.v 1)] 1 <|
(.out 0 [(.v 2)]))
def S483 (G : Told) (_fuel : Nat) (x0 x1 : D) : Option (Nat × List D) :=
  (gcall G none 484 [x0, x1] 1).bind fun e2 =>
  some (0, [(e2.getD 0 .undef)])
theorem eq483 {G : Told} {fuel : Nat} (x0 x1 : D) : run G fuel T483 [x0, x1] = S483 G fuel x0 x1 := by
  rw [run_eq]; kernel_rfl

def T482 : T :=
(.op none .len [(.v 0)] <|
(.op none .len [(.v 1)] <|
(.op none (.icm .neq) [(.v 2), (.v 3)] <|
(.ite (.v 4)
  (.out 0 [(.c (.bool false))])
  (.op none .len [(.v 0)] <|
  (.join 2
    (.loop [(.c (.int 0))]
      (.op none (.icm .lss) [(.v 6), (.v 5)] <|
      (.ite (.v 7)
        (.op none .idx [(.v 0), (.v 6)] <|
        (.op none .idx [(.v 1), (.v 6)] <|
        (.call none 483 [(.v 8), (.v 9)] 1 <|
        (.op none .bnot [(.v 10)] <|
        (.ite (.v 11)
          (.out 2 [(.c (.bool false))])
          (.op none (.iar .add .i64) [(.v 6), (.c (.int 1))] <|
          (.out 0 [(.v 12)])))))))
        (.out 1 [(.v 6), (.v 7)]))))
  (.out 0 [(.c (.bool true))])))))))
def S482L0 (G : Told) (x0 : D) (x1 : D) (x5 : D) : List D → Option (Nat × List D) := fun e6 =>
        (gev none (.icm .lss) [(e6.getD 0 .undef), x5]).bind fun x7 =>
        tif x7 (
          (gev none .idx [x0, (e6.getD 0 .undef)]).bind fun x8 =>
          (gev none .idx [x1, (e6.getD 0 .undef)]).bind fun x9 =>
          (gcall G none 483 [x8, x9] 1).bind fun e10 =>
          (gev none .bnot [(e10.getD 0 .undef)]).bind fun x11 =>
          tif x11 (
            some (2, [(.bool false)])) (
            (gev none (.iar .add .i64) [(e6.getD 0 .undef), (.int 1)]).bind fun x12 =>
            some (0, [x12]))) (
          some (1, [(e6.getD 0 .undef), x7]))
def S482 (G : Told) (fuel : Nat) (x0 x1 : D) : Option (Nat × List D) :=
  (gev none .len [x0]).bind fun x2 =>
  (gev none .len [x1]).bind fun x3 =>
  (gev none (.icm .neq) [x2, x3]).bind fun x4 =>
  tif x4 (
    some (0, [(.bool false)])) (
    (gev none .len [x0]).bind fun x5 =>
    tjoin 2 (
      iter (tbody 1 (S482L0 G x0 x1 x5)) fuel [(.int 0)]) fun _e6 =>
    some (0, [(.bool true)]))
theorem eq482 {G : Told} {fuel : Nat} (x0 x1 : D) : run G fuel T482 [x0, x1] = S482 G fuel x0 x1 := by
  rw [run_eq]; kernel_rfl

def T481 : T :=
(.call none 482 [(.v 0), (.v 1)] 1 <|
(.out 0 [(.v 2)]))
def S481 (G : Told) (_fuel : Nat) (x0 x1 : D) : Option (Nat × List D) :=
  (gcall G none 482 [x0, x1] 1).bind fun e2 =>
  some (0, [(e2.getD 0 .undef)])
theorem eq481 {G : Told} {fuel : Nat} (x0 x1 : D) : run G fuel T481 [x0, x1] = S481 G fuel x0 x1 := by
  rw [run_eq]; kernel_rfl

def T480 : T :=
(.call none 150 [(.v 0), (.v 1)] 1 <|
(.call (some ((.v 4), true)) 150 [(.v 2), (.v 3)] 1 <|
(.op none .pick [(.v 4), (.v 5), (.c (.bool false))] <|
(.op (some ((.v 6), true)) .id [(.v 0)] <|
(.op (some ((.v 6), true)) .len [(.v 7)] <|
(.op (some ((.v 6), true)) .id [(.v 2)] <|
(.op (some ((.v 6), true)) .len [(.v 9)] <|
(.op (some ((.v 6), true)) (.icm .eql) [(.v 8), (.v 10)] <|
(.op none .pick [(.v 6), (.v 11), (.c (.bool false))] <|
(.op (some ((.v 12), true)) .id [(.v 1)] <|
(.op (some ((.v 12), true)) .id [(.v 3)] <|
(.call (some ((.v 12), true)) 481 [(.v 13), (.v 14)] 1 <|
(.op none .pick [(.v 12), (.v 15), (.c (.bool false))] <|
(.out 0 [(.v 16)]))))))))))))))
def S480 (G : Told) (_fuel : Nat) (x0 x1 x2 x3 : D) : Option (Nat × List D) :=
  (gcall G none 150 [x0, x1] 1).bind fun e4 =>
  (gcall G (some ((e4.getD 0 .undef), true)) 150 [x2, x3] 1).bind fun e5 =>
  (gev none .pick [(e4.getD 0 .undef), (e5.getD 0 .undef), (.bool false)]).bind fun x6 =>
  (gev (some (x6, true)) .id [x0]).bind fun x7 =>
  (gev (some (x6, true)) .len [x7]).bind fun x8 =>
  (gev (some (x6, true)) .id [x2]).bind fun x9 =>
  (gev (some (x6, true)) .len [x9]).bind fun x10 =>
  (gev (some (x6, true)) (.icm .eql) [x8, x10]).bind fun x11 =>
  (gev none .pick [x6, x11, (.bool false)]).bind fun x12 =>
  (gev (some (x12, true)) .id [x1]).bind fun x13 =>
  (gev (some (x12, true)) .id [x3]).bind fun x14 =>
  (gcall G (some (x12, true)) 481 [x13, x14] 1).bind fun e15 =>
  (gev none .pick [x12, (e15.getD 0 .undef), (.bool false)]).bind fun x16 =>
  some (0, [x16])
theorem eq480 {G : Told} {fuel : Nat} (x0 x1 x2 x3 : D) : run G fuel T480 [x0, x1, x2, x3] = S480 G fuel x0 x1 x2 x3 := by
  rw [run_eq]; kernel_rfl

attribute [local irreducible] vl il tl totL szM validP tif tjoin IntKind.wrap

set_option maxHeartbeats 4000000 in
theorem run484 {G : Told} : ∀ ds rs, F484 ds = some rs → ∃ fuel, run G fuel T484 ds = some (0, rs) := by
  intro ds rs h
  unfold F484 at h
  split at h
  case h_2 => cases h
  rename_i a b
  obtain ⟨l, ha, h⟩ := Option.bind_eq_some_iff.1 h
  obtain ⟨m, hb, h⟩ := Option.bind_eq_some_iff.1 h
  split at h
  case isFalse => cases h
  rename_i hc
  obtain ⟨rfl, hc⟩ := hc
  rw [dI_inv ha, dI_inv hb]
  simp only [Option.some.injEq] at h
  subst h
  refine ⟨l.length + 1, ?_⟩
  rw [eq484]
  unfold S484
  have hn := len_il (l := l)
  have hne : ((l.length : Int) != l.length) = false := by simp
  have hloop : iter (tbody 1 (S484L0 G (il l) (il l) (.int (l.length : Int)))) (l.length + 1) [.int 0] = some (0, [.int (l.length : Int), .bool false]) := by
    have h1 := iter_upto (body := tbody 1 (S484L0 G (il l) (il l) (.int (l.length : Int)))) (n := l.length) (l := 0) (ds := [.int (l.length : Int), .bool false])
      (fun i => [.int (i : Int)]) ?_ ?_
    · simpa using h1
    · intro i hi
      refine tb rfl ?_
      have h0 : decide ((i : Int) < (l.length : Int)) = true := by simpa using hi
      have hx := idx_il hi
      have p3 := add1n (i := i) (by omega)
      have hv : (l[i] != l[i]) = false := by simp
      unfold S484L0
      repeat' first
        | with_reducible refine st_ift ?_
        | with_reducible refine st_iff ?_
        | ((with_reducible apply st_some); exact hx)
        | ((with_reducible apply st_some); exact p3)
        | ((with_reducible apply st_callt); assumption; exact rfl; exact rfl; assumption)
        | ((with_reducible apply st_callf); assumption; exact rfl; exact rfl; assumption)
        | ((with_reducible apply st_call); assumption; exact rfl; exact rfl; exact rfl)
        | ((with_reducible apply st_wide); exact rfl; exact rfl)
        | ((with_reducible apply st_skip); exact rfl)
        | ((with_reducible apply st_t); exact rfl; exact rfl)
        | ((with_reducible apply st_f); exact rfl; exact rfl)
        | ((with_reducible apply st_t); exact rfl; assumption)
        | ((with_reducible apply st_f); exact rfl; assumption)
        | ((with_reducible apply st_some); exact rfl)
        | exact rfl
    · refine tb rfl ?_
      have h0 : decide ((l.length : Int) < (l.length : Int)) = false := by simp
      unfold S484L0
      repeat' first
        | with_reducible refine st_ift ?_
        | with_reducible refine st_iff ?_
        | ((with_reducible apply st_callt); assumption; exact rfl; exact rfl; assumption)
        | ((with_reducible apply st_callf); assumption; exact rfl; exact rfl; assumption)
        | ((with_reducible apply st_call); assumption; exact rfl; exact rfl; exact rfl)
        | ((with_reducible apply st_wide); exact rfl; exact rfl)
        | ((with_reducible apply st_skip); exact rfl)
        | ((with_reducible apply st_t); exact rfl; exact rfl)
        | ((with_reducible apply st_f); exact rfl; exact rfl)
        | ((with_reducible apply st_t); exact rfl; assumption)
        | ((with_reducible apply st_f); exact rfl; assumption)
        | ((with_reducible apply st_some); exact rfl)
        | exact rfl
  repeat' first
    | with_reducible refine st_ift ?_
    | with_reducible refine st_iff ?_
    | ((with_reducible apply st_join); exact hloop; exact rfl)
    | ((with_reducible apply st_some); exact hn)
    | ((with_reducible apply st_callt); assumption; exact rfl; exact rfl; assumption)
    | ((with_reducible apply st_callf); assumption; exact rfl; exact rfl; assumption)
    | ((with_reducible apply st_call); assumption; exact rfl; exact rfl; exact rfl)
    | ((with_reducible apply st_wide); exact rfl; exact rfl)
    | ((with_reducible apply st_skip); exact rfl)
    | ((with_reducible apply st_t); exact rfl; exact rfl)
    | ((with_reducible apply st_f); exact rfl; exact rfl)
    | ((with_reducible apply st_t); exact rfl; assumption)
    | ((with_reducible apply st_f); exact rfl; assumption)
    | ((with_reducible apply st_some); exact rfl)
    | exact rfl
set_option maxHeartbeats 4000000 in
theorem run483 {G : Told} (g484 : G 484 = F484) : ∀ ds rs, F483 ds = some rs → ∃ fuel, run G fuel T483 ds = some (0, rs) := by
  intro ds rs h
  have h' := h
  unfold F483 F484 at h
  split at h
  case h_2 => cases h
  rename_i a b
  obtain ⟨l, ha, h⟩ := Option.bind_eq_some_iff.1 h
  obtain ⟨m, hb, h⟩ := Option.bind_eq_some_iff.1 h
  split at h
  case isFalse => cases h
  simp only [Option.some.injEq] at h
  subst h
  have h' : F484 [a, b] = some [.bool true] := h'
  refine ⟨0, ?_⟩
  rw [eq483]
  unfold S483
  repeat' first
    | with_reducible refine st_ift ?_
    | with_reducible refine st_iff ?_
    | ((with_reducible apply st_call); exact g484; exact rfl; exact h'; exact rfl)
    | ((with_reducible apply st_callt); assumption; exact rfl; exact rfl; assumption)
    | ((with_reducible apply st_callf); assumption; exact rfl; exact rfl; assumption)
    | ((with_reducible apply st_call); assumption; exact rfl; exact rfl; exact rfl)
    | ((with_reducible apply st_wide); exact rfl; exact rfl)
    | ((with_reducible apply st_skip); exact rfl)
    | ((with_reducible apply st_t); exact rfl; exact rfl)
    | ((with_reducible apply st_f); exact rfl; exact rfl)
    | ((with_reducible apply st_t); exact rfl; assumption)
    | ((with_reducible apply st_f); exact rfl; assumption)
    | ((with_reducible apply st_some); exact rfl)
    | exact rfl
set_option maxHeartbeats 4000000 in
theorem run482 {G : Told} (g483 : G 483 = F483) : ∀ ds rs, F482 ds = some rs → ∃ fuel, run G fuel T482 ds = some (0, rs) := by
  intro ds rs h
  unfold F482 at h
  split at h
  case h_2 => cases h
  rename_i a b
  obtain ⟨l, ha, h⟩ := Option.bind_eq_some_iff.1 h
  obtain ⟨m, hb, h⟩ := Option.bind_eq_some_iff.1 h
  split at h
  case isFalse => cases h
  rename_i hc
  obtain ⟨rfl, hc⟩ := hc
  rw [dT_inv ha, dT_inv hb]
  simp only [Option.some.injEq] at h
  subst h
  refine ⟨l.length + 1, ?_⟩
  rw [eq482]
  unfold S482
  have hn := len_tl (l := l)
  have hne : ((l.length : Int) != l.length) = false := by simp
  have hloop : iter (tbody 1 (S482L0 G (tl l) (tl l) (.int (l.length : Int)))) (l.length + 1) [.int 0] = some (0, [.int (l.length : Int), .bool false]) := by
    have h1 := iter_upto (body := tbody 1 (S482L0 G (tl l) (tl l) (.int (l.length : Int)))) (n := l.length) (l := 0) (ds := [.int (l.length : Int), .bool false])
      (fun i => [.int (i : Int)]) ?_ ?_
    · simpa using h1
    · intro i hi
      refine tb rfl ?_
      have h0 : decide ((i : Int) < (l.length : Int)) = true := by simpa using hi
      have hx := idx_tl hi
      have p3 := add1n (i := i) (by omega)
      have hle := len_le_totL hi
      have hf : F483 [il l[i], il l[i]] = some [.bool true] := F484_m (by omega)
      unfold S482L0
      repeat' first
        | with_reducible refine st_ift ?_
        | with_reducible refine st_iff ?_
        | ((with_reducible apply st_call); exact g483; exact rfl; exact hf; exact rfl)
        | ((with_reducible apply st_some); exact hx)
        | ((with_reducible apply st_some); exact p3)
        | ((with_reducible apply st_callt); assumption; exact rfl; exact rfl; assumption)
        | ((with_reducible apply st_callf); assumption; exact rfl; exact rfl; assumption)
        | ((with_reducible apply st_call); assumption; exact rfl; exact rfl; exact rfl)
        | ((with_reducible apply st_wide); exact rfl; exact rfl)
        | ((with_reducible apply st_skip); exact rfl)
        | ((with_reducible apply st_t); exact rfl; exact rfl)
        | ((with_reducible apply st_f); exact rfl; exact rfl)
        | ((with_reducible apply st_t); exact rfl; assumption)
        | ((with_reducible apply st_f); exact rfl; assumption)
        | ((with_reducible apply st_some); exact rfl)
        | exact rfl
    · refine tb rfl ?_
      have h0 : decide ((l.length : Int) < (l.length : Int)) = false := by simp
      unfold S482L0
      repeat' first
        | with_reducible refine st_ift ?_
        | with_reducible refine st_iff ?_
        | ((with_reducible apply st_callt); assumption; exact rfl; exact rfl; assumption)
        | ((with_reducible apply st_callf); assumption; exact rfl; exact rfl; assumption)
        | ((with_reducible apply st_call); assumption; exact rfl; exact rfl; exact rfl)
        | ((with_reducible apply st_wide); exact rfl; exact rfl)
        | ((with_reducible apply st_skip); exact rfl)
        | ((with_reducible apply st_t); exact rfl; exact rfl)
        | ((with_reducible apply st_f); exact rfl; exact rfl)
        | ((with_reducible apply st_t); exact rfl; assumption)
        | ((with_reducible apply st_f); exact rfl; assumption)
        | ((with_reducible apply st_some); exact rfl)
        | exact rfl
  repeat' first
    | with_reducible refine st_ift ?_
    | with_reducible refine st_iff ?_
    | ((with_reducible apply st_join); exact hloop; exact rfl)
    | ((with_reducible apply st_some); exact hn)
    | ((with_reducible apply st_callt); assumption; exact rfl; exact rfl; assumption)
    | ((with_reducible apply st_callf); assumption; exact rfl; exact rfl; assumption)
    | ((with_reducible apply st_call); assumption; exact rfl; exact rfl; exact rfl)
    | ((with_reducible apply st_wide); exact rfl; exact rfl)
    | ((with_reducible apply st_skip); exact rfl)
    | ((with_reducible apply st_t); exact rfl; exact rfl)
    | ((with_reducible apply st_f); exact rfl; exact rfl)
    | ((with_reducible apply st_t); exact rfl; assumption)
    | ((with_reducible apply st_f); exact rfl; assumption)
    | ((with_reducible apply st_some); exact rfl)
    | exact rfl
set_option maxHeartbeats 4000000 in
theorem run481 {G : Told} (g482 : G 482 = F482) : ∀ ds rs, F481 ds = some rs → ∃ fuel, run G fuel T481 ds = some (0, rs) := by
  intro ds rs h
  have h' := h
  unfold F481 F482 at h
  split at h
  case h_2 => cases h
  rename_i a b
  obtain ⟨l, ha, h⟩ := Option.bind_eq_some_iff.1 h
  obtain ⟨m, hb, h⟩ := Option.bind_eq_some_iff.1 h
  split at h
  case isFalse => cases h
  simp only [Option.some.injEq] at h
  subst h
  have h' : F482 [a, b] = some [.bool true] := h'
  refine ⟨0, ?_⟩
  rw [eq481]
  unfold S481
  repeat' first
    | with_reducible refine st_ift ?_
    | with_reducible refine st_iff ?_
    | ((with_reducible apply st_call); exact g482; exact rfl; exact h'; exact rfl)
    | ((with_reducible apply st_callt); assumption; exact rfl; exact rfl; assumption)
    | ((with_reducible apply st_callf); assumption; exact rfl; exact rfl; assumption)
    | ((with_reducible apply st_call); assumption; exact rfl; exact rfl; exact rfl)
    | ((with_reducible apply st_wide); exact rfl; exact rfl)
    | ((with_reducible apply st_skip); exact rfl)
    | ((with_reducible apply st_t); exact rfl; exact rfl)
    | ((with_reducible apply st_f); exact rfl; exact rfl)
    | ((with_reducible apply st_t); exact rfl; assumption)
    | ((with_reducible apply st_f); exact rfl; assumption)
    | ((with_reducible apply st_some); exact rfl)
    | exact rfl
set_option maxHeartbeats 4000000 in
theorem run480 {G : Told} (g150 : G 150 = F150) (g481 : G 481 = F481) : ∀ ds rs, F480 ds = some rs → ∃ fuel, run G fuel T480 ds = some (0, rs) := by
  intro ds rs h
  unfold F480 at h
  split at h
  case h_2 => cases h
  rename_i a b c d
  obtain ⟨vs, ha, h⟩ := Option.bind_eq_some_iff.1 h
  obtain ⟨ts, hb, h⟩ := Option.bind_eq_some_iff.1 h
  obtain ⟨us, hc, h⟩ := Option.bind_eq_some_iff.1 h
  obtain ⟨ss, hd, h⟩ := Option.bind_eq_some_iff.1 h
  split at h
  case isFalse => cases h
  rename_i hk
  obtain ⟨rfl, hl, hz, hv⟩ := hk
  rw [dV_inv ha, dT_inv hb, dV_inv hc, dT_inv hd]
  simp only [Option.some.injEq] at h
  subst h
  refine ⟨0, ?_⟩
  rw [eq480]
  unfold S480
  have z1 : szM vs ts = vs.length + ts.length + totL ts := by unfold szM; rfl
  have z2 : szM us ts = us.length + ts.length + totL ts := by unfold szM; rfl
  have v1 := F150_m (vs := vs) (ts := ts) (by omega)
  have v2 := F150_m (vs := us) (ts := ts) (by omega)
  rw [hv] at v1
  rw [hl, hv] at v2
  have n1 : gev (some (.bool true, true)) .len [vl vs] = some (.int (vs.length : Int)) := len_vl
  have n2 : gev (some (.bool true, true)) .len [vl us] = some (.int (vs.length : Int)) := by rw [← hl]; exact len_vl
  have hq : ((vs.length : Int) == vs.length) = true := by simp
  have hf : F481 [tl ts, tl ts] = some [.bool true] := F482_m (by omega)
  repeat' first
    | with_reducible refine st_ift ?_
    | with_reducible refine st_iff ?_
    | ((with_reducible apply st_call); exact g150; exact rfl; exact v1; exact rfl)
    | ((with_reducible apply st_call); exact g150; exact rfl; exact v2; exact rfl)
    | ((with_reducible apply st_call); exact g481; exact rfl; exact hf; exact rfl)
    | ((with_reducible apply st_some); exact n1)
    | ((with_reducible apply st_some); exact n2)
    | ((with_reducible apply st_callt); assumption; exact rfl; exact rfl; assumption)
    | ((with_reducible apply st_callf); assumption; exact rfl; exact rfl; assumption)
    | ((with_reducible apply st_call); assumption; exact rfl; exact rfl; exact rfl)
    | ((with_reducible apply st_wide); exact rfl; exact rfl)
    | ((with_reducible apply st_skip); exact rfl)
    | ((with_reducible apply st_t); exact rfl; exact rfl)
    | ((with_reducible apply st_f); exact rfl; exact rfl)
    | ((with_reducible apply st_t); exact rfl; assumption)
    | ((with_reducible apply st_f); exact rfl; assumption)
    | ((with_reducible apply st_some); exact rfl)
    | exact rfl
end Vs
