/-
  NormVectors: what the functions compute, and the law.
-/
import Derived.Test.YtfpmhmngebnphaaK4
namespace Vs
open Go

def scaleL (vs : List V3) (k : Nat) : List V3 := vs.map fun v => V3.scale v k
def byP (q : Nat) : Nat := fdiv .f32 1065353216 (rootP q)
noncomputable def normP (vs : List V3) : List D :=
  if overP (innerL vs vs) = true ∧ finP (byP (innerL vs vs)) = true then [vl (scaleL vs (byP (innerL vs vs))), .bool true] else [vl [], .bool false]
noncomputable def F131 : List D → Option (List D) := on1 fun vs => if vs.length ≤ 1048576 then some (if vs.length ≤ 256 then normP vs else [vl [], .bool false]) else none
noncomputable def F132 : List D → Option (List D) := on1 fun vs => if vs.length ≤ 256 then some (normP vs) else none
noncomputable def F133 : List D → Option (List D) := on1 fun vs => if vs.length < 9223372036854775808 then some [.bool true] else none
theorem F131_vl {vs : List V3} (h : vs.length ≤ 1048576) : F131 [vl vs] = some (if vs.length ≤ 256 then normP vs else [vl [], .bool false]) := by
  simp only [F131, on1_vl]
  rw [if_pos h]
theorem F132_vl {vs : List V3} (h : vs.length ≤ 256) : F132 [vl vs] = some (normP vs) := by
  simp only [F132, on1_vl]
  rw [if_pos h]
theorem len_scaleL {vs : List V3} {k : Nat} : (scaleL vs k).length = vs.length := by simp [scaleL]

def T132 : T :=
(.call none 124 [(.v 0), (.v 0)] 1 <|
(.call none 11 [(.v 1)] 1 <|
(.op none (.far .quo .f32) [(.c (.flt 1065353216)), (.v 2)] <|
(.call none 2 [(.v 1)] 1 <|
(.op none .bnot [(.v 4)] <|
(.op (some ((.v 5), false)) .id [(.v 3)] <|
(.call (some ((.v 5), false)) 1 [(.v 6)] 1 <|
(.op (some ((.v 5), false)) .bnot [(.v 7)] <|
(.op none .pick [(.v 5), (.c (.bool true)), (.v 8)] <|
(.ite (.v 9)
  (.out 0 [(.c (.lst [])), (.c (.bool false))])
  (.op none .mklst [] <|
  (.op none .len [(.v 0)] <|
  (.join 3
    (.loop [(.v 10), (.c (.int 0))]
      (.op none (.icm .lss) [(.v 13), (.v 11)] <|
      (.ite (.v 14)
        (.op none .idx [(.v 0), (.v 13)] <|
        (.op none (.proj 0) [(.v 15)] <|
        (.op none (.proj 1) [(.v 15)] <|
        (.op none (.proj 2) [(.v 15)] <|
        (.call none 31 [(.v 16), (.v 17), (.v 18), (.v 3)] 3 <|
        (.op none .mkagg [(.v 19), (.v 20), (.v 21)] <|
        (.op none .mklst [(.v 22)] <|
        (.op none .app [(.v 12), (.v 23)] <|
        (.op none (.iar .add .i64) [(.v 13), (.c (.int 1))] <|
        (.out 0 [(.v 24), (.v 25)]))))))))))
        (.out 1 [(.v 12), (.v 13), (.v 14)]))))
  (.out 0 [(.v 12), (.c (.bool true))]))))))))))))))
def S132L0 (G : Told) (x0 : D) (x3 : D) (x11 : D) : List D → Option (Nat × List D) := fun e12 =>
        (gev none (.icm .lss) [(e12.getD 1 .undef), x11]).bind fun x14 =>
        tif x14 (
          (gev none .idx [x0, (e12.getD 1 .undef)]).bind fun x15 =>
          (gev none (.proj 0) [x15]).bind fun x16 =>
          (gev none (.proj 1) [x15]).bind fun x17 =>
          (gev none (.proj 2) [x15]).bind fun x18 =>
          (gcall G none 31 [x16, x17, x18, x3] 3).bind fun e19 =>
          (gev none .mkagg [(e19.getD 0 .undef), (e19.getD 1 .undef), (e19.getD 2 .undef)]).bind fun x22 =>
          (gev none .mklst [x22]).bind fun x23 =>
          (gev none .app [(e12.getD 0 .undef), x23]).bind fun x24 =>
          (gev none (.iar .add .i64) [(e12.getD 1 .undef), (.int 1)]).bind fun x25 =>
          some (0, [x24, x25])) (
          some (1, [(e12.getD 0 .undef), (e12.getD 1 .undef), x14]))
def S132 (G : Told) (fuel : Nat) (x0 : D) : Option (Nat × List D) :=
  (gcall G none 124 [x0, x0] 1).bind fun e1 =>
  (gcall G none 11 [(e1.getD 0 .undef)] 1).bind fun e2 =>
  (gev none (.far .quo .f32) [(.flt 1065353216), (e2.getD 0 .undef)]).bind fun x3 =>
  (gcall G none 2 [(e1.getD 0 .undef)] 1).bind fun e4 =>
  (gev none .bnot [(e4.getD 0 .undef)]).bind fun x5 =>
  (gev (some (x5, false)) .id [x3]).bind fun x6 =>
  (gcall G (some (x5, false)) 1 [x6] 1).bind fun e7 =>
  (gev (some (x5, false)) .bnot [(e7.getD 0 .undef)]).bind fun x8 =>
  (gev none .pick [x5, (.bool true), x8]).bind fun x9 =>
  tif x9 (
    some (0, [(.lst []), (.bool false)])) (
    (gev none .mklst []).bind fun x10 =>
    (gev none .len [x0]).bind fun x11 =>
    tjoin 3 (
      iter (tbody 2 (S132L0 G x0 x3 x11)) fuel [x10, (.int 0)]) fun e12 =>
    some (0, [(e12.getD 0 .undef), (.bool true)]))
theorem eq132 {G : Told} {fuel : Nat} (x0 : D) : run G fuel T132 [x0] = S132 G fuel x0 := by
  rw [run_eq]; kernel_rfl

def T131 : T :=
(.call none 125 [(.v 0), (.v 0)] 2 <|
(.op none .bnot [(.v 2)] <|
(.op (some ((.v 3), false)) .id [(.v 1)] <|
(.call (some ((.v 3), false)) 2 [(.v 4)] 1 <|
(.op (some ((.v 3), false)) .bnot [(.v 5)] <|
(.op none .pick [(.v 3), (.c (.bool true)), (.v 6)] <|
(.ite (.v 7)
  (.out 0 [(.c (.lst [])), (.c (.bool false))])
  (.call none 11 [(.v 1)] 1 <|
  (.op none (.far .quo .f32) [(.c (.flt 1065353216)), (.v 8)] <|
  (.call none 1 [(.v 9)] 1 <|
  (.op none .bnot [(.v 10)] <|
  (.ite (.v 11)
    (.out 0 [(.c (.lst [])), (.c (.bool false))])
    (.op none .mklst [] <|
    (.op none .len [(.v 0)] <|
    (.join 3
      (.loop [(.v 12), (.c (.int 0))]
        (.op none (.icm .lss) [(.v 15), (.v 13)] <|
        (.ite (.v 16)
          (.op none .idx [(.v 0), (.v 15)] <|
          (.op none (.proj 0) [(.v 17)] <|
          (.op none (.proj 1) [(.v 17)] <|
          (.op none (.proj 2) [(.v 17)] <|
          (.call none 31 [(.v 18), (.v 19), (.v 20), (.v 9)] 3 <|
          (.op none .mkagg [(.v 21), (.v 22), (.v 23)] <|
          (.op none .mklst [(.v 24)] <|
          (.op none .app [(.v 14), (.v 25)] <|
          (.op none (.iar .add .i64) [(.v 15), (.c (.int 1))] <|
          (.out 0 [(.v 26), (.v 27)]))))))))))
          (.out 1 [(.v 14), (.v 15), (.v 16)]))))
    (.out 0 [(.v 14), (.c (.bool true))]))))))))))))))))
def S131L0 (G : Told) (x0 : D) (x9 : D) (x13 : D) : List D → Option (Nat × List D) := fun e14 =>
          (gev none (.icm .lss) [(e14.getD 1 .undef), x13]).bind fun x16 =>
          tif x16 (
            (gev none .idx [x0, (e14.getD 1 .undef)]).bind fun x17 =>
            (gev none (.proj 0) [x17]).bind fun x18 =>
            (gev none (.proj 1) [x17]).bind fun x19 =>
            (gev none (.proj 2) [x17]).bind fun x20 =>
            (gcall G none 31 [x18, x19, x20, x9] 3).bind fun e21 =>
            (gev none .mkagg [(e21.getD 0 .undef), (e21.getD 1 .undef), (e21.getD 2 .undef)]).bind fun x24 =>
            (gev none .mklst [x24]).bind fun x25 =>
            (gev none .app [(e14.getD 0 .undef), x25]).bind fun x26 =>
            (gev none (.iar .add .i64) [(e14.getD 1 .undef), (.int 1)]).bind fun x27 =>
            some (0, [x26, x27])) (
            some (1, [(e14.getD 0 .undef), (e14.getD 1 .undef), x16]))
def S131 (G : Told) (fuel : Nat) (x0 : D) : Option (Nat × List D) :=
  (gcall G none 125 [x0, x0] 2).bind fun e1 =>
  (gev none .bnot [(e1.getD 1 .undef)]).bind fun x3 =>
  (gev (some (x3, false)) .id [(e1.getD 0 .undef)]).bind fun x4 =>
  (gcall G (some (x3, false)) 2 [x4] 1).bind fun e5 =>
  (gev (some (x3, false)) .bnot [(e5.getD 0 .undef)]).bind fun x6 =>
  (gev none .pick [x3, (.bool true), x6]).bind fun x7 =>
  tif x7 (
    some (0, [(.lst []), (.bool false)])) (
    (gcall G none 11 [(e1.getD 0 .undef)] 1).bind fun e8 =>
    (gev none (.far .quo .f32) [(.flt 1065353216), (e8.getD 0 .undef)]).bind fun x9 =>
    (gcall G none 1 [x9] 1).bind fun e10 =>
    (gev none .bnot [(e10.getD 0 .undef)]).bind fun x11 =>
    tif x11 (
      some (0, [(.lst []), (.bool false)])) (
      (gev none .mklst []).bind fun x12 =>
      (gev none .len [x0]).bind fun x13 =>
      tjoin 3 (
        iter (tbody 2 (S131L0 G x0 x9 x13)) fuel [x12, (.int 0)]) fun e14 =>
      some (0, [(e14.getD 0 .undef), (.bool true)])))
theorem eq131 {G : Told} {fuel : Nat} (x0 : D) : run G fuel T131 [x0] = S131 G fuel x0 := by
  rw [run_eq]; kernel_rfl

def T131s : T :=
(.op none .len [(.v 0)] <|
(.op none (.icm .gtr) [(.v 1), (.c (.int 256))] <|
(.ite (.v 2)
  (.out 0 [(.c (.lst [])), (.c (.bool false))])
  (.call none 132 [(.v 0)] 2 <|
  (.out 0 [(.v 3), (.v 4)])))))
def S131s (G : Told) (_fuel : Nat) (x0 : D) : Option (Nat × List D) :=
  (gev none .len [x0]).bind fun x1 =>
  (gev none (.icm .gtr) [x1, (.int 256)]).bind fun x2 =>
  tif x2 (
    some (0, [(.lst []), (.bool false)])) (
    (gcall G none 132 [x0] 2).bind fun e3 =>
    some (0, [(e3.getD 0 .undef), (e3.getD 1 .undef)]))
theorem eq131s {G : Told} {fuel : Nat} (x0 : D) : run G fuel T131s [x0] = S131s G fuel x0 := by
  rw [run_eq]; kernel_rfl

def T133 : T :=
(.call none 120 [(.v 0), (.c (.int 1048576))] 1 <|
(.op none (.icm .lss) [(.v 1), (.c (.int 0))] <|
(.ite (.v 2)
  (.out 0 [(.c (.bool true))])
  (.call none 121 [(.v 0)] 1 <|
  (.call none 131 [(.v 3)] 2 <|
  (.call none 121 [(.v 0)] 1 <|
  (.call none 131 [(.v 6)] 2 <|
  (.call none 127 [(.v 7), (.v 4)] 1 <|
  (.op none .bnot [(.v 9)] <|
  (.op (some ((.v 10), false)) .id [(.v 8)] <|
  (.op (some ((.v 10), false)) .id [(.v 5)] <|
  (.op (some ((.v 10), false)) .bne [(.v 11), (.v 12)] <|
  (.op none .pick [(.v 10), (.c (.bool true)), (.v 13)] <|
  (.ite (.v 14)
    (.out 0 [(.c (.bool false))])
    (.call none 121 [(.v 0)] 1 <|
    (.call none 127 [(.v 6), (.v 15)] 1 <|
    (.op none .bnot [(.v 16)] <|
    (.ite (.v 17)
      (.out 0 [(.c (.bool false))])
      (.call none 128 [(.v 6), (.c (.int 1))] 2 <|
      (.op none (.icm .lss) [(.v 18), (.c (.int 0))] <|
      (.call (some ((.v 20), false)) 127 [(.v 7), (.v 4)] 1 <|
      (.op (some ((.v 20), false)) .bnot [(.v 21)] <|
      (.op none .pick [(.v 20), (.c (.bool true)), (.v 22)] <|
      (.op (some ((.v 23), false)) .id [(.v 8)] <|
      (.op (some ((.v 23), false)) .id [(.v 5)] <|
      (.op (some ((.v 23), false)) .bne [(.v 24), (.v 25)] <|
      (.op none .pick [(.v 23), (.c (.bool true)), (.v 26)] <|
      (.ite (.v 27)
        (.out 0 [(.c (.bool false))])
        (.call none 128 [(.v 7), (.c (.int 1))] 2 <|
        (.call none 129 [(.v 29), (.c (.int 1))] 1 <|
        (.op none (.icm .lss) [(.v 30), (.c (.int 0))] <|
        (.ite (.v 31)
          (.out 0 [(.c (.bool false))])
          (.op none (.icm .neq) [(.v 30), (.v 28)] <|
          (.ite (.v 32)
            (.out 0 [(.c (.bool false))])
            (.call none 121 [(.v 0)] 1 <|
            (.call none 131 [(.v 33)] 2 <|
            (.call none 127 [(.v 34), (.v 4)] 1 <|
            (.op none .bnot [(.v 36)] <|
            (.op (some ((.v 37), false)) .id [(.v 35)] <|
            (.op (some ((.v 37), false)) .id [(.v 5)] <|
            (.op (some ((.v 37), false)) .bne [(.v 38), (.v 39)] <|
            (.op none .pick [(.v 37), (.c (.bool true)), (.v 40)] <|
            (.ite (.v 41)
              (.out 0 [(.c (.bool false))])
              (.call none 129 [(.v 29), (.c (.int 1))] 1 <|
              (.op none (.icm .lss) [(.v 42), (.c (.int 0))] <|
              (.ite (.v 43)
                (.out 0 [(.c (.bool false))])
                (.op none (.icm .neq) [(.v 42), (.v 28)] <|
                (.ite (.v 44)
                  (.out 0 [(.c (.bool false))])
                  (.out 0 [(.c (.bool true))])))))))))))))))))))))))))))))))))))))))))))))))))
def S133 (G : Told) (_fuel : Nat) (x0 : D) : Option (Nat × List D) :=
  (gcall G none 120 [x0, (.int 1048576)] 1).bind fun e1 =>
  (gev none (.icm .lss) [(e1.getD 0 .undef), (.int 0)]).bind fun x2 =>
  tif x2 (
    some (0, [(.bool true)])) (
    (gcall G none 121 [x0] 1).bind fun e3 =>
    (gcall G none 131 [(e3.getD 0 .undef)] 2).bind fun e4 =>
    (gcall G none 121 [x0] 1).bind fun e6 =>
    (gcall G none 131 [(e6.getD 0 .undef)] 2).bind fun e7 =>
    (gcall G none 127 [(e7.getD 0 .undef), (e4.getD 0 .undef)] 1).bind fun e9 =>
    (gev none .bnot [(e9.getD 0 .undef)]).bind fun x10 =>
    (gev (some (x10, false)) .id [(e7.getD 1 .undef)]).bind fun x11 =>
    (gev (some (x10, false)) .id [(e4.getD 1 .undef)]).bind fun x12 =>
    (gev (some (x10, false)) .bne [x11, x12]).bind fun x13 =>
    (gev none .pick [x10, (.bool true), x13]).bind fun x14 =>
    tif x14 (
      some (0, [(.bool false)])) (
      (gcall G none 121 [x0] 1).bind fun e15 =>
      (gcall G none 127 [(e6.getD 0 .undef), (e15.getD 0 .undef)] 1).bind fun e16 =>
      (gev none .bnot [(e16.getD 0 .undef)]).bind fun x17 =>
      tif x17 (
        some (0, [(.bool false)])) (
        (gcall G none 128 [(e6.getD 0 .undef), (.int 1)] 2).bind fun e18 =>
        (gev none (.icm .lss) [(e18.getD 0 .undef), (.int 0)]).bind fun x20 =>
        (gcall G (some (x20, false)) 127 [(e7.getD 0 .undef), (e4.getD 0 .undef)] 1).bind fun e21 =>
        (gev (some (x20, false)) .bnot [(e21.getD 0 .undef)]).bind fun x22 =>
        (gev none .pick [x20, (.bool true), x22]).bind fun x23 =>
        (gev (some (x23, false)) .id [(e7.getD 1 .undef)]).bind fun x24 =>
        (gev (some (x23, false)) .id [(e4.getD 1 .undef)]).bind fun x25 =>
        (gev (some (x23, false)) .bne [x24, x25]).bind fun x26 =>
        (gev none .pick [x23, (.bool true), x26]).bind fun x27 =>
        tif x27 (
          some (0, [(.bool false)])) (
          (gcall G none 128 [(e7.getD 0 .undef), (.int 1)] 2).bind fun e28 =>
          (gcall G none 129 [(e28.getD 1 .undef), (.int 1)] 1).bind fun e30 =>
          (gev none (.icm .lss) [(e30.getD 0 .undef), (.int 0)]).bind fun x31 =>
          tif x31 (
            some (0, [(.bool false)])) (
            (gev none (.icm .neq) [(e30.getD 0 .undef), (e28.getD 0 .undef)]).bind fun x32 =>
            tif x32 (
              some (0, [(.bool false)])) (
              (gcall G none 121 [x0] 1).bind fun e33 =>
              (gcall G none 131 [(e33.getD 0 .undef)] 2).bind fun e34 =>
              (gcall G none 127 [(e34.getD 0 .undef), (e4.getD 0 .undef)] 1).bind fun e36 =>
              (gev none .bnot [(e36.getD 0 .undef)]).bind fun x37 =>
              (gev (some (x37, false)) .id [(e34.getD 1 .undef)]).bind fun x38 =>
              (gev (some (x37, false)) .id [(e4.getD 1 .undef)]).bind fun x39 =>
              (gev (some (x37, false)) .bne [x38, x39]).bind fun x40 =>
              (gev none .pick [x37, (.bool true), x40]).bind fun x41 =>
              tif x41 (
                some (0, [(.bool false)])) (
                (gcall G none 129 [(e28.getD 1 .undef), (.int 1)] 1).bind fun e42 =>
                (gev none (.icm .lss) [(e42.getD 0 .undef), (.int 0)]).bind fun x43 =>
                tif x43 (
                  some (0, [(.bool false)])) (
                  (gev none (.icm .neq) [(e42.getD 0 .undef), (e28.getD 0 .undef)]).bind fun x44 =>
                  tif x44 (
                    some (0, [(.bool false)])) (
                    some (0, [(.bool true)]))))))))))
theorem eq133 {G : Told} {fuel : Nat} (x0 : D) : run G fuel T133 [x0] = S133 G fuel x0 := by
  rw [run_eq]; kernel_rfl

attribute [local irreducible] tif tjoin IntKind.wrap feq fadd fmul fsub fdiv fgt i2f sameP wide eqV vl innerP gainP innerL scaleL rootP overP finP
set_option maxHeartbeats 4000000 in
theorem run132 {G : Told} (g1 : G 1 = F1) (g2 : G 2 = F2) (g11 : G 11 = F11) (g31 : G 31 = F31) (g124 : G 124 = F124) : ∀ ds rs, F132 ds = some rs → ∃ fuel, run G fuel T132 ds = some (0, rs) := by
  intro ds rs h
  obtain ⟨vs, rfl, hp⟩ := on1_inv h
  replace h := hp
  clear hp
  split at h
  · rename_i hc
    simp only [Option.some.injEq] at h
    subst h
    refine ⟨vs.length + 1, ?_⟩
    rw [eq132]
    unfold S132
    have h4 := F124_vl (vs := vs) (ws := vs) (by omega) (by omega)
    have e0 : vl [] = .lst [] := by unfold vl; rfl
    have hn := len_vl (l := vs)
    unfold normP
    rw [e0]
    have h11 : F11 [.flt (innerL vs vs)] = some [.flt (rootP (innerL vs vs))] := rfl
    have h2 : F2 [.flt (innerL vs vs)] = some [.bool (overP (innerL vs vs))] := rfl
    have hby : byP (innerL vs vs) = fdiv .f32 1065353216 (rootP (innerL vs vs)) := rfl
    rw [hby]
    have h1 : F1 [.flt (fdiv .f32 1065353216 (rootP (innerL vs vs)))] = some [.bool (finP (fdiv .f32 1065353216 (rootP (innerL vs vs))))] := rfl
    generalize innerL vs vs = q at *
    generalize rootP q = r at *
    have hk : ∃ k, fdiv .f32 1065353216 r = k := ⟨_, rfl⟩
    obtain ⟨k, hk⟩ := hk
    have hq : gev none (.far .quo .f32) [.flt 1065353216, .flt r] = some (.flt k) := by rw [← hk]; rfl
    rw [hk] at h1 ⊢
    clear hk hby
    cases ho : overP q
    · rw [ho] at h2
      rw [if_neg (by simp)]
      repeat' first
        | with_reducible refine st_ift ?_
        | with_reducible refine st_iff ?_
        | ((with_reducible apply st_call); exact g124; exact rfl; exact h4; exact rfl)
        | ((with_reducible apply st_call); exact g11; exact rfl; exact h11; exact rfl)
        | ((with_reducible apply st_call); exact g2; exact rfl; exact h2; exact rfl)
        | ((with_reducible apply st_call); exact g1; exact rfl; exact h1; exact rfl)
        | ((with_reducible apply st_call); exact g2; exact rfl; exact h2; exact rfl)
        | ((with_reducible apply st_some); exact hq)
        | ((with_reducible apply st_callt); assumption; exact rfl; exact rfl; assumption)
        | ((with_reducible apply st_callf); assumption; exact rfl; exact rfl; assumption)
        | ((with_reducible apply st_call); assumption; exact rfl; exact rfl; exact rfl)
        | ((with_reducible apply st_wide); exact rfl; exact rfl)
        | ((with_reducible apply st_skip); exact rfl)
        | ((with_reducible apply st_t); exact rfl; exact rfl)
        | ((with_reducible apply st_f); exact rfl; exact rfl)
        | ((with_reducible apply st_t); exact rfl; assumption)
        | ((with_reducible apply st_f); exact rfl; assumption)
        | ((with_reducible apply st_some); exact rfl)
        | exact rfl
    · rw [ho] at h2
      cases hf : finP k
      · rw [hf] at h1
        rw [if_neg (by simp)]
        repeat' first
          | with_reducible refine st_ift ?_
          | with_reducible refine st_iff ?_
          | ((with_reducible apply st_call); exact g124; exact rfl; exact h4; exact rfl)
          | ((with_reducible apply st_call); exact g11; exact rfl; exact h11; exact rfl)
          | ((with_reducible apply st_call); exact g2; exact rfl; exact h2; exact rfl)
          | ((with_reducible apply st_call); exact g1; exact rfl; exact h1; exact rfl)
          | ((with_reducible apply st_call); exact g2; exact rfl; exact h2; exact rfl)
          | ((with_reducible apply st_some); exact hq)
          | ((with_reducible apply st_callt); assumption; exact rfl; exact rfl; assumption)
          | ((with_reducible apply st_callf); assumption; exact rfl; exact rfl; assumption)
          | ((with_reducible apply st_call); assumption; exact rfl; exact rfl; exact rfl)
          | ((with_reducible apply st_wide); exact rfl; exact rfl)
          | ((with_reducible apply st_skip); exact rfl)
          | ((with_reducible apply st_t); exact rfl; exact rfl)
          | ((with_reducible apply st_f); exact rfl; exact rfl)
          | ((with_reducible apply st_t); exact rfl; assumption)
          | ((with_reducible apply st_f); exact rfl; assumption)
          | ((with_reducible apply st_some); exact rfl)
          | exact rfl
      · rw [hf] at h1
        rw [if_pos ⟨rfl, rfl⟩]
        have hz : (scaleL vs k).length = vs.length := len_scaleL
        have hloop : iter (tbody 2 (S132L0 G (vl vs) (.flt k) (.int (vs.length : Int)))) (vs.length + 1) [.lst [], .int 0] = some (0, [vl (scaleL vs k), .int (vs.length : Int), .bool false]) := by
          have h1 := iter_upto (body := tbody 2 (S132L0 G (vl vs) (.flt k) (.int (vs.length : Int)))) (n := vs.length) (l := 0) (ds := [vl (scaleL vs k), .int (vs.length : Int), .bool false])
            (fun i => [vl ((scaleL vs k).take i), .int (i : Int)]) ?_ ?_
          · simpa [e0] using h1
          · intro i hi
            refine tb rfl ?_
            have h0 : decide ((i : Int) < (vs.length : Int)) = true := by simpa using hi
            have hx := idx_vl hi
            have ha := add1n (i := i) (by omega)
            have hp := app_vl (l := (scaleL vs k).take i) (v := (scaleL vs k)[i]) (by simp; omega)
            rw [← take_step] at hp
            have hg : (scaleL vs k)[i] = V3.scale vs[i] k := by
              unfold scaleL
              simp
            rw [hg] at hp
            generalize vl ((scaleL vs k).take i) = l1 at hp
            generalize vl ((scaleL vs k).take (i + 1)) = l2 at hp
            have h31 : F31 [.flt vs[i].x, .flt vs[i].y, .flt vs[i].z, .flt k] = some [.flt (V3.scale vs[i] k).x, .flt (V3.scale vs[i] k).y, .flt (V3.scale vs[i] k).z] := rfl
            generalize V3.scale vs[i] k = d at h31 hp
            unfold S132L0
            repeat' first
              | with_reducible refine st_ift ?_
              | with_reducible refine st_iff ?_
              | ((with_reducible apply st_call); exact g31; exact rfl; exact h31; exact rfl)
              | ((with_reducible apply st_some); exact hx)
              | ((with_reducible apply st_some); exact ha)
              | ((with_reducible apply st_some); exact hp)
              | ((with_reducible apply st_callt); assumption; exact rfl; exact rfl; assumption)
              | ((with_reducible apply st_callf); assumption; exact rfl; exact rfl; assumption)
              | ((with_reducible apply st_call); assumption; exact rfl; exact rfl; exact rfl)
              | ((with_reducible apply st_wide); exact rfl; exact rfl)
              | ((with_reducible apply st_skip); exact rfl)
              | ((with_reducible apply st_t); exact rfl; exact rfl)
              | ((with_reducible apply st_f); exact rfl; exact rfl)
              | ((with_reducible apply st_t); exact rfl; assumption)
              | ((with_reducible apply st_f); exact rfl; assumption)
              | ((with_reducible apply st_some); exact rfl)
              | exact rfl
          · refine tb rfl ?_
            have h0 : decide ((vs.length : Int) < (vs.length : Int)) = false := by simp
            have e : (scaleL vs k).take vs.length = scaleL vs k := by rw [← hz]; exact List.take_length
            rw [e]
            unfold S132L0
            repeat' first
              | with_reducible refine st_ift ?_
              | with_reducible refine st_iff ?_
              | ((with_reducible apply st_callt); assumption; exact rfl; exact rfl; assumption)
              | ((with_reducible apply st_callf); assumption; exact rfl; exact rfl; assumption)
              | ((with_reducible apply st_call); assumption; exact rfl; exact rfl; exact rfl)
              | ((with_reducible apply st_wide); exact rfl; exact rfl)
              | ((with_reducible apply st_skip); exact rfl)
              | ((with_reducible apply st_t); exact rfl; exact rfl)
              | ((with_reducible apply st_f); exact rfl; exact rfl)
              | ((with_reducible apply st_t); exact rfl; assumption)
              | ((with_reducible apply st_f); exact rfl; assumption)
              | ((with_reducible apply st_some); exact rfl)
              | exact rfl
        repeat' first
          | with_reducible refine st_ift ?_
          | with_reducible refine st_iff ?_
          | ((with_reducible apply st_join); exact hloop; exact rfl)
          | ((with_reducible apply st_call); exact g124; exact rfl; exact h4; exact rfl)
          | ((with_reducible apply st_call); exact g11; exact rfl; exact h11; exact rfl)
          | ((with_reducible apply st_call); exact g2; exact rfl; exact h2; exact rfl)
          | ((with_reducible apply st_call); exact g1; exact rfl; exact h1; exact rfl)
          | ((with_reducible apply st_call); exact g2; exact rfl; exact h2; exact rfl)
          | ((with_reducible apply st_some); exact hq)
          | ((with_reducible apply st_some); exact hn)
          | ((with_reducible apply st_callt); assumption; exact rfl; exact rfl; assumption)
          | ((with_reducible apply st_callf); assumption; exact rfl; exact rfl; assumption)
          | ((with_reducible apply st_call); assumption; exact rfl; exact rfl; exact rfl)
          | ((with_reducible apply st_wide); exact rfl; exact rfl)
          | ((with_reducible apply st_skip); exact rfl)
          | ((with_reducible apply st_t); exact rfl; exact rfl)
          | ((with_reducible apply st_f); exact rfl; exact rfl)
          | ((with_reducible apply st_t); exact rfl; assumption)
          | ((with_reducible apply st_f); exact rfl; assumption)
          | ((with_reducible apply st_some); exact rfl)
          | exact rfl
  · cases h
set_option maxHeartbeats 4000000 in
theorem run131 {G : Told} (g1 : G 1 = F1) (g2 : G 2 = F2) (g11 : G 11 = F11) (g31 : G 31 = F31) (g125 : G 125 = F125) : ∀ ds rs, F131 ds = some rs → ∃ fuel, run G fuel T131 ds = some (0, rs) := by
  intro ds rs h
  obtain ⟨vs, rfl, hp⟩ := on1_inv h
  replace h := hp
  clear hp
  split at h
  · rename_i hc
    simp only [Option.some.injEq] at h
    subst h
    refine ⟨vs.length + 1, ?_⟩
    rw [eq131]
    unfold S131
    have h5 := F125_vl (vs := vs) (ws := vs) hc hc
    by_cases hd : vs.length ≤ 256
    case neg =>
      rw [if_neg (fun h => hd h.2)] at h5
      have e0 : vl [] = .lst [] := by unfold vl; rfl
      rw [if_neg hd, e0]
      repeat' first
        | with_reducible refine st_ift ?_
        | with_reducible refine st_iff ?_
        | ((with_reducible apply st_call); exact g125; exact rfl; exact h5; exact rfl)
        | ((with_reducible apply st_callt); assumption; exact rfl; exact rfl; assumption)
        | ((with_reducible apply st_callf); assumption; exact rfl; exact rfl; assumption)
        | ((with_reducible apply st_call); assumption; exact rfl; exact rfl; exact rfl)
        | ((with_reducible apply st_wide); exact rfl; exact rfl)
        | ((with_reducible apply st_skip); exact rfl)
        | ((with_reducible apply st_t); exact rfl; exact rfl)
        | ((with_reducible apply st_f); exact rfl; exact rfl)
        | ((with_reducible apply st_t); exact rfl; assumption)
        | ((with_reducible apply st_f); exact rfl; assumption)
        | ((with_reducible apply st_some); exact rfl)
        | exact rfl
    rw [if_pos ⟨rfl, hd⟩] at h5
    rw [if_pos hd]
    have e0 : vl [] = .lst [] := by unfold vl; rfl
    have hn := len_vl (l := vs)
    unfold normP
    rw [e0]
    have h11 : F11 [.flt (innerL vs vs)] = some [.flt (rootP (innerL vs vs))] := rfl
    have h2 : F2 [.flt (innerL vs vs)] = some [.bool (overP (innerL vs vs))] := rfl
    have hby : byP (innerL vs vs) = fdiv .f32 1065353216 (rootP (innerL vs vs)) := rfl
    rw [hby]
    have h1 : F1 [.flt (fdiv .f32 1065353216 (rootP (innerL vs vs)))] = some [.bool (finP (fdiv .f32 1065353216 (rootP (innerL vs vs))))] := rfl
    generalize innerL vs vs = q at *
    generalize rootP q = r at *
    have hk : ∃ k, fdiv .f32 1065353216 r = k := ⟨_, rfl⟩
    obtain ⟨k, hk⟩ := hk
    have hq : gev none (.far .quo .f32) [.flt 1065353216, .flt r] = some (.flt k) := by rw [← hk]; rfl
    rw [hk] at h1 ⊢
    clear hk hby
    cases ho : overP q
    · rw [ho] at h2
      rw [if_neg (by simp)]
      repeat' first
        | with_reducible refine st_ift ?_
        | with_reducible refine st_iff ?_
        | ((with_reducible apply st_call); exact g125; exact rfl; exact h5; exact rfl)
        | ((with_reducible apply st_call); exact g11; exact rfl; exact h11; exact rfl)
        | ((with_reducible apply st_call); exact g2; exact rfl; exact h2; exact rfl)
        | ((with_reducible apply st_call); exact g1; exact rfl; exact h1; exact rfl)
        | ((with_reducible apply st_call); exact g2; exact rfl; exact h2; exact rfl)
        | ((with_reducible apply st_some); exact hq)
        | ((with_reducible apply st_callt); assumption; exact rfl; exact rfl; assumption)
        | ((with_reducible apply st_callf); assumption; exact rfl; exact rfl; assumption)
        | ((with_reducible apply st_call); assumption; exact rfl; exact rfl; exact rfl)
        | ((with_reducible apply st_wide); exact rfl; exact rfl)
        | ((with_reducible apply st_skip); exact rfl)
        | ((with_reducible apply st_t); exact rfl; exact rfl)
        | ((with_reducible apply st_f); exact rfl; exact rfl)
        | ((with_reducible apply st_t); exact rfl; assumption)
        | ((with_reducible apply st_f); exact rfl; assumption)
        | ((with_reducible apply st_some); exact rfl)
        | exact rfl
    · rw [ho] at h2
      cases hf : finP k
      · rw [hf] at h1
        rw [if_neg (by simp)]
        repeat' first
          | with_reducible refine st_ift ?_
          | with_reducible refine st_iff ?_
          | ((with_reducible apply st_call); exact g125; exact rfl; exact h5; exact rfl)
          | ((with_reducible apply st_call); exact g11; exact rfl; exact h11; exact rfl)
          | ((with_reducible apply st_call); exact g2; exact rfl; exact h2; exact rfl)
          | ((with_reducible apply st_call); exact g1; exact rfl; exact h1; exact rfl)
          | ((with_reducible apply st_call); exact g2; exact rfl; exact h2; exact rfl)
          | ((with_reducible apply st_some); exact hq)
          | ((with_reducible apply st_callt); assumption; exact rfl; exact rfl; assumption)
          | ((with_reducible apply st_callf); assumption; exact rfl; exact rfl; assumption)
          | ((with_reducible apply st_call); assumption; exact rfl; exact rfl; exact rfl)
          | ((with_reducible apply st_wide); exact rfl; exact rfl)
          | ((with_reducible apply st_skip); exact rfl)
          | ((with_reducible apply st_t); exact rfl; exact rfl)
          | ((with_reducible apply st_f); exact rfl; exact rfl)
          | ((with_reducible apply st_t); exact rfl; assumption)
          | ((with_reducible apply st_f); exact rfl; assumption)
          | ((with_reducible apply st_some); exact rfl)
          | exact rfl
      · rw [hf] at h1
        rw [if_pos ⟨rfl, rfl⟩]
        have hz : (scaleL vs k).length = vs.length := len_scaleL
        have hloop : iter (tbody 2 (S131L0 G (vl vs) (.flt k) (.int (vs.length : Int)))) (vs.length + 1) [.lst [], .int 0] = some (0, [vl (scaleL vs k), .int (vs.length : Int), .bool false]) := by
          have h1 := iter_upto (body := tbody 2 (S131L0 G (vl vs) (.flt k) (.int (vs.length : Int)))) (n := vs.length) (l := 0) (ds := [vl (scaleL vs k), .int (vs.length : Int), .bool false])
            (fun i => [vl ((scaleL vs k).take i), .int (i : Int)]) ?_ ?_
          · simpa [e0] using h1
          · intro i hi
            refine tb rfl ?_
            have h0 : decide ((i : Int) < (vs.length : Int)) = true := by simpa using hi
            have hx := idx_vl hi
            have ha := add1n (i := i) (by omega)
            have hp := app_vl (l := (scaleL vs k).take i) (v := (scaleL vs k)[i]) (by simp; omega)
            rw [← take_step] at hp
            have hg : (scaleL vs k)[i] = V3.scale vs[i] k := by
              unfold scaleL
              simp
            rw [hg] at hp
            generalize vl ((scaleL vs k).take i) = l1 at hp
            generalize vl ((scaleL vs k).take (i + 1)) = l2 at hp
            have h31 : F31 [.flt vs[i].x, .flt vs[i].y, .flt vs[i].z, .flt k] = some [.flt (V3.scale vs[i] k).x, .flt (V3.scale vs[i] k).y, .flt (V3.scale vs[i] k).z] := rfl
            generalize V3.scale vs[i] k = d at h31 hp
            unfold S131L0
            repeat' first
              | with_reducible refine st_ift ?_
              | with_reducible refine st_iff ?_
              | ((with_reducible apply st_call); exact g31; exact rfl; exact h31; exact rfl)
              | ((with_reducible apply st_some); exact hx)
              | ((with_reducible apply st_some); exact ha)
              | ((with_reducible apply st_some); exact hp)
              | ((with_reducible apply st_callt); assumption; exact rfl; exact rfl; assumption)
              | ((with_reducible apply st_callf); assumption; exact rfl; exact rfl; assumption)
              | ((with_reducible apply st_call); assumption; exact rfl; exact rfl; exact rfl)
              | ((with_reducible apply st_wide); exact rfl; exact rfl)
              | ((with_reducible apply st_skip); exact rfl)
              | ((with_reducible apply st_t); exact rfl; exact rfl)
              | ((with_reducible apply st_f); exact rfl; exact rfl)
              | ((with_reducible apply st_t); exact rfl; assumption)
              | ((with_reducible apply st_f); exact rfl; assumption)
              | ((with_reducible apply st_some); exact rfl)
              | exact rfl
          · refine tb rfl ?_
            have h0 : decide ((vs.length : Int) < (vs.length : Int)) = false := by simp
            have e : (scaleL vs k).take vs.length = scaleL vs k := by rw [← hz]; exact List.take_length
            rw [e]
            unfold S131L0
            repeat' first
              | with_reducible refine st_ift ?_
              | with_reducible refine st_iff ?_
              | ((with_reducible apply st_callt); assumption; exact rfl; exact rfl; assumption)
              | ((with_reducible apply st_callf); assumption; exact rfl; exact rfl; assumption)
              | ((with_reducible apply st_call); assumption; exact rfl; exact rfl; exact rfl)
              | ((with_reducible apply st_wide); exact rfl; exact rfl)
              | ((with_reducible apply st_skip); exact rfl)
              | ((with_reducible apply st_t); exact rfl; exact rfl)
              | ((with_reducible apply st_f); exact rfl; exact rfl)
              | ((with_reducible apply st_t); exact rfl; assumption)
              | ((with_reducible apply st_f); exact rfl; assumption)
              | ((with_reducible apply st_some); exact rfl)
              | exact rfl
        repeat' first
          | with_reducible refine st_ift ?_
          | with_reducible refine st_iff ?_
          | ((with_reducible apply st_join); exact hloop; exact rfl)
          | ((with_reducible apply st_call); exact g125; exact rfl; exact h5; exact rfl)
          | ((with_reducible apply st_call); exact g11; exact rfl; exact h11; exact rfl)
          | ((with_reducible apply st_call); exact g2; exact rfl; exact h2; exact rfl)
          | ((with_reducible apply st_call); exact g1; exact rfl; exact h1; exact rfl)
          | ((with_reducible apply st_call); exact g2; exact rfl; exact h2; exact rfl)
          | ((with_reducible apply st_some); exact hq)
          | ((with_reducible apply st_some); exact hn)
          | ((with_reducible apply st_callt); assumption; exact rfl; exact rfl; assumption)
          | ((with_reducible apply st_callf); assumption; exact rfl; exact rfl; assumption)
          | ((with_reducible apply st_call); assumption; exact rfl; exact rfl; exact rfl)
          | ((with_reducible apply st_wide); exact rfl; exact rfl)
          | ((with_reducible apply st_skip); exact rfl)
          | ((with_reducible apply st_t); exact rfl; exact rfl)
          | ((with_reducible apply st_f); exact rfl; exact rfl)
          | ((with_reducible apply st_t); exact rfl; assumption)
          | ((with_reducible apply st_f); exact rfl; assumption)
          | ((with_reducible apply st_some); exact rfl)
          | exact rfl
  · cases h
set_option maxHeartbeats 4000000 in
theorem run131s {G : Told} (g132 : G 132 = F132) : ∀ ds rs, F131 ds = some rs → ∃ fuel, run G fuel T131s ds = some (0, rs) := by
  intro ds rs h
  obtain ⟨vs, rfl, hp⟩ := on1_inv h
  replace h := hp
  clear hp
  split at h
  · rename_i hc
    simp only [Option.some.injEq] at h
    subst h
    refine ⟨0, ?_⟩
    rw [eq131s]
    unfold S131s
    have hn := len_vl (l := vs)
    by_cases hd : vs.length ≤ 256
    · have hgt : decide ((vs.length : Int) > 256) = false := by simp; omega
      have h2 := F132_vl hd
      rw [if_pos hd]
      have hs : ∃ a b, normP vs = [a, b] := by
        unfold normP
        split <;> exact ⟨_, _, rfl⟩
      obtain ⟨a, b, hs⟩ := hs
      rw [hs] at h2 ⊢
      repeat' first
        | with_reducible refine st_ift ?_
        | with_reducible refine st_iff ?_
        | ((with_reducible apply st_call); exact g132; exact rfl; exact h2; exact rfl)
        | ((with_reducible apply st_some); exact hn)
        | ((with_reducible apply st_callt); assumption; exact rfl; exact rfl; assumption)
        | ((with_reducible apply st_callf); assumption; exact rfl; exact rfl; assumption)
        | ((with_reducible apply st_call); assumption; exact rfl; exact rfl; exact rfl)
        | ((with_reducible apply st_wide); exact rfl; exact rfl)
        | ((with_reducible apply st_skip); exact rfl)
        | ((with_reducible apply st_t); exact rfl; exact rfl)
        | ((with_reducible apply st_f); exact rfl; exact rfl)
        | ((with_reducible apply st_t); exact rfl; assumption)
        | ((with_reducible apply st_f); exact rfl; assumption)
        | ((with_reducible apply st_some); exact rfl)
        | exact rfl
    · have hgt : decide ((vs.length : Int) > 256) = true := by simp; omega
      rw [if_neg hd]
      have e0 : vl [] = .lst [] := by unfold vl; rfl
      rw [e0]
      repeat' first
        | with_reducible refine st_ift ?_
        | with_reducible refine st_iff ?_
        | ((with_reducible apply st_some); exact hn)
        | ((with_reducible apply st_callt); assumption; exact rfl; exact rfl; assumption)
        | ((with_reducible apply st_callf); assumption; exact rfl; exact rfl; assumption)
        | ((with_reducible apply st_call); assumption; exact rfl; exact rfl; exact rfl)
        | ((with_reducible apply st_wide); exact rfl; exact rfl)
        | ((with_reducible apply st_skip); exact rfl)
        | ((with_reducible apply st_t); exact rfl; exact rfl)
        | ((with_reducible apply st_f); exact rfl; exact rfl)
        | ((with_reducible apply st_t); exact rfl; assumption)
        | ((with_reducible apply st_f); exact rfl; assumption)
        | ((with_reducible apply st_some); exact rfl)
        | exact rfl
  · cases h
set_option maxHeartbeats 4000000 in
theorem run133 {G : Told} (g120 : G 120 = F120) (g121 : G 121 = F121) (g131 : G 131 = F131) (g127 : G 127 = F127) (g128 : G 128 = F128) (g129 : G 129 = F129) : ∀ ds rs, F133 ds = some rs → ∃ fuel, run G fuel T133 ds = some (0, rs) := by
  intro ds rs h
  obtain ⟨vs, rfl, hp⟩ := on1_inv h
  replace h := hp
  clear hp
  split at h
  · rename_i hb1
    simp only [Option.some.injEq] at h
    subst h
    refine ⟨0, ?_⟩
    rw [eq133]
    unfold S133
    have z1 : F120 [vl vs, .int 1048576] = some [.int (if (1048576 : Int) - vs.length < 0 then -1 else 1048576 - vs.length)] := by
      unfold vl
      simp only [F120, List.length_map]
      rw [if_pos ⟨by omega, by omega, hb1⟩]
    by_cases c1 : (1048576 : Int) - vs.length < 0
    · rw [if_pos c1] at z1
      repeat' first
        | with_reducible refine st_ift ?_
        | with_reducible refine st_iff ?_
        | ((with_reducible apply st_call); exact g120; exact rfl; exact z1; exact rfl)
        | ((with_reducible apply st_callt); assumption; exact rfl; exact rfl; assumption)
        | ((with_reducible apply st_callf); assumption; exact rfl; exact rfl; assumption)
        | ((with_reducible apply st_call); assumption; exact rfl; exact rfl; exact rfl)
        | ((with_reducible apply st_wide); exact rfl; exact rfl)
        | ((with_reducible apply st_skip); exact rfl)
        | ((with_reducible apply st_t); exact rfl; exact rfl)
        | ((with_reducible apply st_f); exact rfl; exact rfl)
        | ((with_reducible apply st_t); exact rfl; assumption)
        | ((with_reducible apply st_f); exact rfl; assumption)
        | ((with_reducible apply st_some); exact rfl)
        | exact rfl
    rw [if_neg c1] at z1
    have d1 : decide ((1048576 : Int) - vs.length < 0) = false := by simpa using c1
    have hr : ∃ us b, F131 [vl vs] = some [vl us, .bool b] ∧ us.length ≤ 1048576 := by
      rw [F131_vl (by omega)]
      unfold normP
      split
      · split
        · exact ⟨_, _, rfl, by rw [len_scaleL]; omega⟩
        · exact ⟨_, _, rfl, by simp⟩
      · exact ⟨_, _, rfl, by simp⟩
    obtain ⟨us, b, hr, hu⟩ := hr
    have t1 := F121_vl (vs := vs) (by omega)
    have q1 := F127_vl (vs := vs) (by omega)
    have q3 := F127_vl (vs := us) (by omega)
    have m1 := F128_vl (vs := vs) (m := 1) (by omega) (by omega) (by omega)
    have m3 := F128_vl (vs := us) (m := 1) (by omega) (by omega) (by omega)
    have n3 := F129_vl (n := us.length) (m := 1) (by omega) (by omega) (by omega)
    have d3 : decide ((1 : Int) + 3 * vs.length < 0) = false := by simp; omega
    have d4 : decide ((1 : Int) + 3 * us.length < 0) = false := by simp; omega
    have d5 : ((1 : Int) + 3 * us.length != 1 + 3 * us.length) = false := by simp
    cases b
    · repeat' first
        | with_reducible refine st_ift ?_
        | with_reducible refine st_iff ?_
        | ((with_reducible apply st_call); exact g120; exact rfl; exact z1; exact rfl)
        | ((with_reducible apply st_call); exact g131; exact rfl; exact hr; exact rfl)
        | ((with_reducible apply st_call); exact g121; exact rfl; exact t1; exact rfl)
        | ((with_reducible apply st_call); exact g127; exact rfl; exact q1; exact rfl)
        | ((with_reducible apply st_call); exact g127; exact rfl; exact q3; exact rfl)
        | ((with_reducible apply st_call); exact g128; exact rfl; exact m1; exact rfl)
        | ((with_reducible apply st_call); exact g128; exact rfl; exact m3; exact rfl)
        | ((with_reducible apply st_call); exact g129; exact rfl; exact n3; exact rfl)
        | ((with_reducible apply st_callt); assumption; exact rfl; exact rfl; assumption)
        | ((with_reducible apply st_callf); assumption; exact rfl; exact rfl; assumption)
        | ((with_reducible apply st_call); assumption; exact rfl; exact rfl; exact rfl)
        | ((with_reducible apply st_wide); exact rfl; exact rfl)
        | ((with_reducible apply st_skip); exact rfl)
        | ((with_reducible apply st_t); exact rfl; exact rfl)
        | ((with_reducible apply st_f); exact rfl; exact rfl)
        | ((with_reducible apply st_t); exact rfl; assumption)
        | ((with_reducible apply st_f); exact rfl; assumption)
        | ((with_reducible apply st_some); exact rfl)
        | exact rfl
    · repeat' first
        | with_reducible refine st_ift ?_
        | with_reducible refine st_iff ?_
        | ((with_reducible apply st_call); exact g120; exact rfl; exact z1; exact rfl)
        | ((with_reducible apply st_call); exact g131; exact rfl; exact hr; exact rfl)
        | ((with_reducible apply st_call); exact g121; exact rfl; exact t1; exact rfl)
        | ((with_reducible apply st_call); exact g127; exact rfl; exact q1; exact rfl)
        | ((with_reducible apply st_call); exact g127; exact rfl; exact q3; exact rfl)
        | ((with_reducible apply st_call); exact g128; exact rfl; exact m1; exact rfl)
        | ((with_reducible apply st_call); exact g128; exact rfl; exact m3; exact rfl)
        | ((with_reducible apply st_call); exact g129; exact rfl; exact n3; exact rfl)
        | ((with_reducible apply st_callt); assumption; exact rfl; exact rfl; assumption)
        | ((with_reducible apply st_callf); assumption; exact rfl; exact rfl; assumption)
        | ((with_reducible apply st_call); assumption; exact rfl; exact rfl; exact rfl)
        | ((with_reducible apply st_wide); exact rfl; exact rfl)
        | ((with_reducible apply st_skip); exact rfl)
        | ((with_reducible apply st_t); exact rfl; exact rfl)
        | ((with_reducible apply st_f); exact rfl; exact rfl)
        | ((with_reducible apply st_t); exact rfl; assumption)
        | ((with_reducible apply st_f); exact rfl; assumption)
        | ((with_reducible apply st_some); exact rfl)
        | exact rfl
  · cases h

end Vs
