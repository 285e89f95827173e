/-
  The best edge of a mesh: the reference, and the laws ShortestEdge, LongestEdge, BestFlip.
-/
import Derived.Test.YtflfikfcbohddaaK29
namespace Vs
open Go Go.Sort

def betO (bet : Nat → Nat → Bool) : Option (Nat × Nat) → Nat → Bool
  | none, _ => true
  | some (_, v), x => bet x v
def bstS (num : E2 → Option Nat) (bet : Nat → Nat → Bool) (es : List E2) (st : Option (Nat × Nat)) (i : Nat) : Option (Nat × Nat) :=
  match num (es.getD i (0, 0)) with
  | none => st
  | some x => if (feq .f32 x x && betO bet st x) = true then some (i, x) else st
def bstN (num : E2 → Option Nat) (bet : Nat → Nat → Bool) (es : List E2) : Nat → Option (Nat × Nat)
  | 0 => none
  | i + 1 => bstS num bet es (bstN num bet es i) i
def bstR (es : List E2) : Option (Nat × Nat) → List D
  | none => [il [], .flt 0, .bool false]
  | some (j, v) => [il [(es.getD j (0, 0)).1, (es.getD j (0, 0)).2], .flt v, .bool true]
def bstP (num : E2 → Option Nat) (bet : Nat → Nat → Bool) (es : List E2) : List D := bstR es (bstN num bet es es.length)
def numF (vs : List V3) (ts : List (List Int)) (e : E2) : Option Nat := if flipB ts e.1 e.2 = true then some (gnP vs ts e.1 e.2) else none
def betL (l : Bool) (x v : Nat) : Bool := if l = true then fgt .f32 x v else flt .f32 x v
theorem bstN_lt {num : E2 → Option Nat} {bet : Nat → Nat → Bool} {es : List E2} : ∀ {i j v : Nat}, bstN num bet es i = some (j, v) → j < i
  | 0, _, _, h => by cases h
  | i + 1, j, v, h => by
    have h : bstS num bet es (bstN num bet es i) i = some (j, v) := h
    unfold bstS at h
    split at h
    · exact Nat.lt_succ_of_lt (bstN_lt h)
    · split at h
      · simp only [Option.some.injEq, Prod.mk.injEq] at h
        omega
      · exact Nat.lt_succ_of_lt (bstN_lt h)
theorem bstS_some {num : E2 → Option Nat} {bet : Nat → Nat → Bool} {es : List E2} {st : Option (Nat × Nat)} {i x : Nat} (h : num (es.getD i (0, 0)) = some x) : bstS num bet es st i = if (feq .f32 x x && betO bet st x) = true then some (i, x) else st := by
  unfold bstS
  rw [h]
theorem bstS_none {num : E2 → Option Nat} {bet : Nat → Nat → Bool} {es : List E2} {st : Option (Nat × Nat)} {i : Nat} (h : num (es.getD i (0, 0)) = none) : bstS num bet es st i = st := by
  unfold bstS
  rw [h]
theorem bstR_none {es : List E2} : bstR es none = [il [], .flt 0, .bool false] := (rfl)
theorem bstR_some {es : List E2} {j v : Nat} {p q : Int} (h : es.getD j (0, 0) = (p, q)) : bstR es (some (j, v)) = [il [p, q], .flt v, .bool true] := by
  unfold bstR
  simp only [h]
theorem bst3 (es : List E2) (st : Option (Nat × Nat)) : ∃ l x b, bstR es st = [il l, .flt x, .bool b] ∧ l.length ≤ 1048576 := by
  cases st with
  | none => exact ⟨_, _, _, rfl, by simp⟩
  | some s => exact ⟨_, _, _, rfl, by simp⟩
noncomputable def F427 : List D → Option (List D)
  | [.int p, .int q, a, b] => F417 [a, b, .int p, .int q]
  | _ => none
def F428 : List D → Option (List D) | [.flt x, .flt y] => some [.bool (fgt .f32 x y)] | _ => none
noncomputable def F437 : List D → Option (List D)
  | [a, b] => (dV a).bind fun vs => (dT b).bind fun ts => if validP vs.length ts = true then some (bstP (numF vs ts) (betL true) (edgL ts vs.length)) else none
  | _ => none
theorem F437_m {vs : List V3} {ts : List (List Int)} (h : validP vs.length ts = true) : F437 [vl vs, tl ts] = some (bstP (numF vs ts) (betL true) (edgL ts vs.length)) := by
  simp only [F437, dV_vl, dT_tl, Option.bind_some]
  rw [if_pos h]
noncomputable def F436 : List D → Option (List D)
  | [a, b] => (dV a).bind fun vs => (dT b).bind fun ts => if szM vs ts ≤ 1048576 then some (if (validP vs.length ts && sheetP ts) = true then bstP (numF vs ts) (betL true) (edgL ts vs.length) else bstR [] none) else none
  | _ => none
theorem F436_m {vs : List V3} {ts : List (List Int)} (h : szM vs ts ≤ 1048576) : F436 [vl vs, tl ts] = some (if (validP vs.length ts && sheetP ts) = true then bstP (numF vs ts) (betL true) (edgL ts vs.length) else bstR [] none) := by
  simp only [F436, dV_vl, dT_tl, Option.bind_some]
  rw [if_pos h]
open Classical in
noncomputable def F466 : List D → Option (List D)
  | [a, b] => (dV a).bind fun vs => (dT b).bind fun ts => if lawM vs ts then some [.bool true] else none
  | _ => none

def T427 : T :=
(.call none 417 [(.v 2), (.v 3), (.v 0), (.v 1)] 2 <|
(.out 0 [(.v 4), (.v 5)]))
def S427 (G : Told) (_fuel : Nat) (x0 x1 x2 x3 : D) : Option (Nat × List D) :=
  (gcall G none 417 [x2, x3, x0, x1] 2).bind fun e4 =>
  some (0, [(e4.getD 0 .undef), (e4.getD 1 .undef)])
theorem eq427 {G : Told} {fuel : Nat} (x0 x1 x2 x3 : D) : run G fuel T427 [x0, x1, x2, x3] = S427 G fuel x0 x1 x2 x3 := by
  rw [run_eq]; kernel_rfl

def T428 : T :=
(.op none (.fcm .gtr .f32) [(.v 0), (.v 1)] <|
(.out 0 [(.v 2)]))
def S428 (_G : Told) (_fuel : Nat) (x0 x1 : D) : Option (Nat × List D) :=
  (gev none (.fcm .gtr .f32) [x0, x1]).bind fun x2 =>
  some (0, [x2])
theorem eq428 {G : Told} {fuel : Nat} (x0 x1 : D) : run G fuel T428 [x0, x1] = S428 G fuel x0 x1 := by
  rw [run_eq]; kernel_rfl

def T437 : T :=
(.call none 413 [(.v 0), (.v 1)] 1 <|
(.join 6
  (.loop [(.c (.int (-1))), (.c (.flt 0)), (.c (.int 0))]
    (.op none .len [(.v 2)] <|
    (.op none (.icm .lss) [(.v 5), (.v 6)] <|
    (.ite (.v 7)
      (.op none .idx [(.v 2), (.v 5)] <|
      (.op none .idx [(.v 2), (.v 5)] <|
      (.op none .idx [(.v 9), (.c (.int 0))] <|
      (.op none .idx [(.v 9), (.c (.int 0))] <|
      (.op none .idx [(.v 2), (.v 5)] <|
      (.op none .idx [(.v 2), (.v 5)] <|
      (.op none .idx [(.v 13), (.c (.int 1))] <|
      (.op none .idx [(.v 13), (.c (.int 1))] <|
      (.call none 417 [(.v 0), (.v 1), (.v 11), (.v 15)] 2 <|
      (.op (some ((.v 17), true)) .id [(.v 16)] <|
      (.op (some ((.v 17), true)) .id [(.v 16)] <|
      (.op (some ((.v 17), true)) (.fcm .eql .f32) [(.v 18), (.v 19)] <|
      (.op none .pick [(.v 17), (.v 20), (.c (.bool false))] <|
      (.op (some ((.v 21), true)) .id [(.v 3)] <|
      (.op (some ((.v 21), true)) (.icm .lss) [(.v 22), (.c (.int 0))] <|
      (.op (some ((.v 21), true)) .id [(.v 23)] <|
      (.op (some ((.v 24), false)) .id [(.v 16)] <|
      (.op (some ((.v 24), false)) .id [(.v 4)] <|
      (.op (some ((.v 24), false)) (.fcm .gtr .f32) [(.v 25), (.v 26)] <|
      (.op (some ((.v 21), true)) .pick [(.v 24), (.c (.bool true)), (.v 27)] <|
      (.op none .pick [(.v 21), (.v 28), (.c (.bool false))] <|
      (.join 2
        (.ite (.v 29)
          (.out 0 [(.v 5), (.v 16)])
          (.out 0 [(.v 3), (.v 4)]))
      (.op none (.iar .add .i64) [(.v 5), (.c (.int 1))] <|
      (.out 0 [(.v 30), (.v 31), (.v 32)]))))))))))))))))))))))))
      (.out 1 [(.v 3), (.v 4), (.v 5), (.v 5), (.v 6), (.v 7)])))))
(.op none (.icm .lss) [(.v 3), (.c (.int 0))] <|
(.ite (.v 9)
  (.out 0 [(.c (.lst [])), (.c (.flt 0)), (.c (.bool false))])
  (.op none .idx [(.v 2), (.v 3)] <|
  (.op none .idx [(.v 2), (.v 3)] <|
  (.out 0 [(.v 11), (.v 4), (.c (.bool true))])))))))
def S437L0 (G : Told) (x0 : D) (x1 : D) (e2 : List D) : List D → Option (Nat × List D) := fun e3 =>
      (gev none .len [(e2.getD 0 .undef)]).bind fun x6 =>
      (gev none (.icm .lss) [(e3.getD 2 .undef), x6]).bind fun x7 =>
      tif x7 (
        (gev none .idx [(e2.getD 0 .undef), (e3.getD 2 .undef)]).bind fun _x8 =>
        (gev none .idx [(e2.getD 0 .undef), (e3.getD 2 .undef)]).bind fun x9 =>
        (gev none .idx [x9, (.int 0)]).bind fun _x10 =>
        (gev none .idx [x9, (.int 0)]).bind fun x11 =>
        (gev none .idx [(e2.getD 0 .undef), (e3.getD 2 .undef)]).bind fun _x12 =>
        (gev none .idx [(e2.getD 0 .undef), (e3.getD 2 .undef)]).bind fun x13 =>
        (gev none .idx [x13, (.int 1)]).bind fun _x14 =>
        (gev none .idx [x13, (.int 1)]).bind fun x15 =>
        (gcall G none 417 [x0, x1, x11, x15] 2).bind fun e16 =>
        (gev (some ((e16.getD 1 .undef), true)) .id [(e16.getD 0 .undef)]).bind fun x18 =>
        (gev (some ((e16.getD 1 .undef), true)) .id [(e16.getD 0 .undef)]).bind fun x19 =>
        (gev (some ((e16.getD 1 .undef), true)) (.fcm .eql .f32) [x18, x19]).bind fun x20 =>
        (gev none .pick [(e16.getD 1 .undef), x20, (.bool false)]).bind fun x21 =>
        (gev (some (x21, true)) .id [(e3.getD 0 .undef)]).bind fun x22 =>
        (gev (some (x21, true)) (.icm .lss) [x22, (.int 0)]).bind fun x23 =>
        (gev (some (x21, true)) .id [x23]).bind fun x24 =>
        (gev (some (x24, false)) .id [(e16.getD 0 .undef)]).bind fun x25 =>
        (gev (some (x24, false)) .id [(e3.getD 1 .undef)]).bind fun x26 =>
        (gev (some (x24, false)) (.fcm .gtr .f32) [x25, x26]).bind fun x27 =>
        (gev (some (x21, true)) .pick [x24, (.bool true), x27]).bind fun x28 =>
        (gev none .pick [x21, x28, (.bool false)]).bind fun x29 =>
        tjoin 2 (
          tif x29 (
            some (0, [(e3.getD 2 .undef), (e16.getD 0 .undef)])) (
            some (0, [(e3.getD 0 .undef), (e3.getD 1 .undef)]))) fun e30 =>
        (gev none (.iar .add .i64) [(e3.getD 2 .undef), (.int 1)]).bind fun x32 =>
        some (0, [(e30.getD 0 .undef), (e30.getD 1 .undef), x32])) (
        some (1, [(e3.getD 0 .undef), (e3.getD 1 .undef), (e3.getD 2 .undef), (e3.getD 2 .undef), x6, x7]))
def S437 (G : Told) (fuel : Nat) (x0 x1 : D) : Option (Nat × List D) :=
  (gcall G none 413 [x0, x1] 1).bind fun e2 =>
  tjoin 6 (
    iter (tbody 3 (S437L0 G x0 x1 e2)) fuel [(.int (-1)), (.flt 0), (.int 0)]) fun e3 =>
  (gev none (.icm .lss) [(e3.getD 0 .undef), (.int 0)]).bind fun x9 =>
  tif x9 (
    some (0, [(.lst []), (.flt 0), (.bool false)])) (
    (gev none .idx [(e2.getD 0 .undef), (e3.getD 0 .undef)]).bind fun _x10 =>
    (gev none .idx [(e2.getD 0 .undef), (e3.getD 0 .undef)]).bind fun x11 =>
    some (0, [x11, (e3.getD 1 .undef), (.bool true)]))
theorem eq437 {G : Told} {fuel : Nat} (x0 x1 : D) : run G fuel T437 [x0, x1] = S437 G fuel x0 x1 := by
  rw [run_eq]; kernel_rfl

def T436s : T :=
(.call none 150 [(.v 0), (.v 1)] 1 <|
(.op none .bnot [(.v 2)] <|
(.call (some ((.v 3), false)) 414 [(.v 0), (.v 1)] 1 <|
(.op (some ((.v 3), false)) .bnot [(.v 4)] <|
(.op none .pick [(.v 3), (.c (.bool true)), (.v 5)] <|
(.ite (.v 6)
  (.out 0 [(.c (.lst [])), (.c (.flt 0)), (.c (.bool false))])
  (.call none 437 [(.v 0), (.v 1)] 3 <|
  (.out 0 [(.v 7), (.v 8), (.v 9)]))))))))
def S436s (G : Told) (_fuel : Nat) (x0 x1 : D) : Option (Nat × List D) :=
  (gcall G none 150 [x0, x1] 1).bind fun e2 =>
  (gev none .bnot [(e2.getD 0 .undef)]).bind fun x3 =>
  (gcall G (some (x3, false)) 414 [x0, x1] 1).bind fun e4 =>
  (gev (some (x3, false)) .bnot [(e4.getD 0 .undef)]).bind fun x5 =>
  (gev none .pick [x3, (.bool true), x5]).bind fun x6 =>
  tif x6 (
    some (0, [(.lst []), (.flt 0), (.bool false)])) (
    (gcall G none 437 [x0, x1] 3).bind fun e7 =>
    some (0, [(e7.getD 0 .undef), (e7.getD 1 .undef), (e7.getD 2 .undef)]))
theorem eq436s {G : Told} {fuel : Nat} (x0 x1 : D) : run G fuel T436s [x0, x1] = S436s G fuel x0 x1 := by
  rw [run_eq]; kernel_rfl

def T466 : T :=
(.call none 142 [(.v 0), (.v 1), (.c (.int 1048576))] 1 <|
(.op none (.icm .lss) [(.v 2), (.c (.int 0))] <|
(.ite (.v 3)
  (.out 0 [(.c (.bool true))])
  (.call none 145 [(.v 0), (.v 1)] 2 <|
  (.call none 436 [(.v 4), (.v 5)] 3 <|
  (.call none 145 [(.v 0), (.v 1)] 2 <|
  (.call none 436 [(.v 9), (.v 10)] 3 <|
  (.call none 100 [(.v 11), (.v 6)] 1 <|
  (.op none .bnot [(.v 14)] <|
  (.op (some ((.v 15), false)) .id [(.v 12)] <|
  (.op (some ((.v 15), false)) (.f2f .f32 .f64) [(.v 16)] <|
  (.op (some ((.v 15), false)) .id [(.v 7)] <|
  (.op (some ((.v 15), false)) (.f2f .f32 .f64) [(.v 18)] <|
  (.call (some ((.v 15), false)) 4 [(.v 17), (.v 19)] 1 <|
  (.op (some ((.v 15), false)) .bnot [(.v 20)] <|
  (.op none .pick [(.v 15), (.c (.bool true)), (.v 21)] <|
  (.op (some ((.v 22), false)) .id [(.v 13)] <|
  (.op (some ((.v 22), false)) .id [(.v 8)] <|
  (.op (some ((.v 22), false)) .bne [(.v 23), (.v 24)] <|
  (.op none .pick [(.v 22), (.c (.bool true)), (.v 25)] <|
  (.ite (.v 26)
    (.out 0 [(.c (.bool false))])
    (.call none 145 [(.v 0), (.v 1)] 2 <|
    (.call none 146 [(.v 9), (.v 10), (.v 27), (.v 28)] 1 <|
    (.op none .bnot [(.v 29)] <|
    (.ite (.v 30)
      (.out 0 [(.c (.bool false))])
      (.call none 147 [(.v 9), (.v 10), (.c (.int 1))] 3 <|
      (.op none (.icm .lss) [(.v 31), (.c (.int 0))] <|
      (.call (some ((.v 34), false)) 100 [(.v 11), (.v 6)] 1 <|
      (.op (some ((.v 34), false)) .bnot [(.v 35)] <|
      (.op none .pick [(.v 34), (.c (.bool true)), (.v 36)] <|
      (.op (some ((.v 37), false)) .id [(.v 12)] <|
      (.op (some ((.v 37), false)) (.f2f .f32 .f64) [(.v 38)] <|
      (.op (some ((.v 37), false)) .id [(.v 7)] <|
      (.op (some ((.v 37), false)) (.f2f .f32 .f64) [(.v 40)] <|
      (.call (some ((.v 37), false)) 4 [(.v 39), (.v 41)] 1 <|
      (.op (some ((.v 37), false)) .bnot [(.v 42)] <|
      (.op none .pick [(.v 37), (.c (.bool true)), (.v 43)] <|
      (.op (some ((.v 44), false)) .id [(.v 13)] <|
      (.op (some ((.v 44), false)) .id [(.v 8)] <|
      (.op (some ((.v 44), false)) .bne [(.v 45), (.v 46)] <|
      (.op none .pick [(.v 44), (.c (.bool true)), (.v 47)] <|
      (.ite (.v 48)
        (.out 0 [(.c (.bool false))])
        (.call none 102 [(.v 11), (.c (.int 1))] 2 <|
        (.call none 104 [(.v 50), (.c (.int 1))] 1 <|
        (.op none (.icm .lss) [(.v 51), (.c (.int 0))] <|
        (.ite (.v 52)
          (.out 0 [(.c (.bool false))])
          (.op none (.icm .neq) [(.v 51), (.v 49)] <|
          (.ite (.v 53)
            (.out 0 [(.c (.bool false))])
            (.call none 145 [(.v 0), (.v 1)] 2 <|
            (.call none 436 [(.v 54), (.v 55)] 3 <|
            (.call none 100 [(.v 56), (.v 6)] 1 <|
            (.op none .bnot [(.v 59)] <|
            (.op (some ((.v 60), false)) .id [(.v 57)] <|
            (.op (some ((.v 60), false)) (.f2f .f32 .f64) [(.v 61)] <|
            (.op (some ((.v 60), false)) .id [(.v 7)] <|
            (.op (some ((.v 60), false)) (.f2f .f32 .f64) [(.v 63)] <|
            (.call (some ((.v 60), false)) 4 [(.v 62), (.v 64)] 1 <|
            (.op (some ((.v 60), false)) .bnot [(.v 65)] <|
            (.op none .pick [(.v 60), (.c (.bool true)), (.v 66)] <|
            (.op (some ((.v 67), false)) .id [(.v 58)] <|
            (.op (some ((.v 67), false)) .id [(.v 8)] <|
            (.op (some ((.v 67), false)) .bne [(.v 68), (.v 69)] <|
            (.op none .pick [(.v 67), (.c (.bool true)), (.v 70)] <|
            (.ite (.v 71)
              (.out 0 [(.c (.bool false))])
              (.call none 104 [(.v 50), (.c (.int 1))] 1 <|
              (.op none (.icm .lss) [(.v 72), (.c (.int 0))] <|
              (.ite (.v 73)
                (.out 0 [(.c (.bool false))])
                (.op none (.icm .neq) [(.v 72), (.v 49)] <|
                (.ite (.v 74)
                  (.out 0 [(.c (.bool false))])
                  (.out 0 [(.c (.bool true))]))))))))))))))))))))))))))))))))))))))))))))))))))))))))))))))))))))))
def S466 (G : Told) (_fuel : Nat) (x0 x1 : D) : Option (Nat × List D) :=
  (gcall G none 142 [x0, x1, (.int 1048576)] 1).bind fun e2 =>
  (gev none (.icm .lss) [(e2.getD 0 .undef), (.int 0)]).bind fun x3 =>
  tif x3 (
    some (0, [(.bool true)])) (
    (gcall G none 145 [x0, x1] 2).bind fun e4 =>
    (gcall G none 436 [(e4.getD 0 .undef), (e4.getD 1 .undef)] 3).bind fun e6 =>
    (gcall G none 145 [x0, x1] 2).bind fun e9 =>
    (gcall G none 436 [(e9.getD 0 .undef), (e9.getD 1 .undef)] 3).bind fun e11 =>
    (gcall G none 100 [(e11.getD 0 .undef), (e6.getD 0 .undef)] 1).bind fun e14 =>
    (gev none .bnot [(e14.getD 0 .undef)]).bind fun x15 =>
    (gev (some (x15, false)) .id [(e11.getD 1 .undef)]).bind fun x16 =>
    (gev (some (x15, false)) (.f2f .f32 .f64) [x16]).bind fun x17 =>
    (gev (some (x15, false)) .id [(e6.getD 1 .undef)]).bind fun x18 =>
    (gev (some (x15, false)) (.f2f .f32 .f64) [x18]).bind fun x19 =>
    (gcall G (some (x15, false)) 4 [x17, x19] 1).bind fun e20 =>
    (gev (some (x15, false)) .bnot [(e20.getD 0 .undef)]).bind fun x21 =>
    (gev none .pick [x15, (.bool true), x21]).bind fun x22 =>
    (gev (some (x22, false)) .id [(e11.getD 2 .undef)]).bind fun x23 =>
    (gev (some (x22, false)) .id [(e6.getD 2 .undef)]).bind fun x24 =>
    (gev (some (x22, false)) .bne [x23, x24]).bind fun x25 =>
    (gev none .pick [x22, (.bool true), x25]).bind fun x26 =>
    tif x26 (
      some (0, [(.bool false)])) (
      (gcall G none 145 [x0, x1] 2).bind fun e27 =>
      (gcall G none 146 [(e9.getD 0 .undef), (e9.getD 1 .undef), (e27.getD 0 .undef), (e27.getD 1 .undef)] 1).bind fun e29 =>
      (gev none .bnot [(e29.getD 0 .undef)]).bind fun x30 =>
      tif x30 (
        some (0, [(.bool false)])) (
        (gcall G none 147 [(e9.getD 0 .undef), (e9.getD 1 .undef), (.int 1)] 3).bind fun e31 =>
        (gev none (.icm .lss) [(e31.getD 0 .undef), (.int 0)]).bind fun x34 =>
        (gcall G (some (x34, false)) 100 [(e11.getD 0 .undef), (e6.getD 0 .undef)] 1).bind fun e35 =>
        (gev (some (x34, false)) .bnot [(e35.getD 0 .undef)]).bind fun x36 =>
        (gev none .pick [x34, (.bool true), x36]).bind fun x37 =>
        (gev (some (x37, false)) .id [(e11.getD 1 .undef)]).bind fun x38 =>
        (gev (some (x37, false)) (.f2f .f32 .f64) [x38]).bind fun x39 =>
        (gev (some (x37, false)) .id [(e6.getD 1 .undef)]).bind fun x40 =>
        (gev (some (x37, false)) (.f2f .f32 .f64) [x40]).bind fun x41 =>
        (gcall G (some (x37, false)) 4 [x39, x41] 1).bind fun e42 =>
        (gev (some (x37, false)) .bnot [(e42.getD 0 .undef)]).bind fun x43 =>
        (gev none .pick [x37, (.bool true), x43]).bind fun x44 =>
        (gev (some (x44, false)) .id [(e11.getD 2 .undef)]).bind fun x45 =>
        (gev (some (x44, false)) .id [(e6.getD 2 .undef)]).bind fun x46 =>
        (gev (some (x44, false)) .bne [x45, x46]).bind fun x47 =>
        (gev none .pick [x44, (.bool true), x47]).bind fun x48 =>
        tif x48 (
          some (0, [(.bool false)])) (
          (gcall G none 102 [(e11.getD 0 .undef), (.int 1)] 2).bind fun e49 =>
          (gcall G none 104 [(e49.getD 1 .undef), (.int 1)] 1).bind fun e51 =>
          (gev none (.icm .lss) [(e51.getD 0 .undef), (.int 0)]).bind fun x52 =>
          tif x52 (
            some (0, [(.bool false)])) (
            (gev none (.icm .neq) [(e51.getD 0 .undef), (e49.getD 0 .undef)]).bind fun x53 =>
            tif x53 (
              some (0, [(.bool false)])) (
              (gcall G none 145 [x0, x1] 2).bind fun e54 =>
              (gcall G none 436 [(e54.getD 0 .undef), (e54.getD 1 .undef)] 3).bind fun e56 =>
              (gcall G none 100 [(e56.getD 0 .undef), (e6.getD 0 .undef)] 1).bind fun e59 =>
              (gev none .bnot [(e59.getD 0 .undef)]).bind fun x60 =>
              (gev (some (x60, false)) .id [(e56.getD 1 .undef)]).bind fun x61 =>
              (gev (some (x60, false)) (.f2f .f32 .f64) [x61]).bind fun x62 =>
              (gev (some (x60, false)) .id [(e6.getD 1 .undef)]).bind fun x63 =>
              (gev (some (x60, false)) (.f2f .f32 .f64) [x63]).bind fun x64 =>
              (gcall G (some (x60, false)) 4 [x62, x64] 1).bind fun e65 =>
              (gev (some (x60, false)) .bnot [(e65.getD 0 .undef)]).bind fun x66 =>
              (gev none .pick [x60, (.bool true), x66]).bind fun x67 =>
              (gev (some (x67, false)) .id [(e56.getD 2 .undef)]).bind fun x68 =>
              (gev (some (x67, false)) .id [(e6.getD 2 .undef)]).bind fun x69 =>
              (gev (some (x67, false)) .bne [x68, x69]).bind fun x70 =>
              (gev none .pick [x67, (.bool true), x70]).bind fun x71 =>
              tif x71 (
                some (0, [(.bool false)])) (
                (gcall G none 104 [(e49.getD 1 .undef), (.int 1)] 1).bind fun e72 =>
                (gev none (.icm .lss) [(e72.getD 0 .undef), (.int 0)]).bind fun x73 =>
                tif x73 (
                  some (0, [(.bool false)])) (
                  (gev none (.icm .neq) [(e72.getD 0 .undef), (e49.getD 0 .undef)]).bind fun x74 =>
                  tif x74 (
                    some (0, [(.bool false)])) (
                    some (0, [(.bool true)]))))))))))
theorem eq466 {G : Told} {fuel : Nat} (x0 x1 : D) : run G fuel T466 [x0, x1] = S466 G fuel x0 x1 := by
  rw [run_eq]; kernel_rfl

theorem edg_get {n : Nat} {ts : List (List Int)} {i : Nat} (h : i < (edgL ts n).length) : ∃ p q : Int, (edgL ts n).getD i (0, 0) = (p, q) ∧ (inr n p && inr n q) = true ∧ p ≠ q ∧ gev none .idx [tl (etl (edgL ts n)), .int (i : Int)] = some (il [p, q]) := by
  have hm : (edgL ts n)[i] ∈ edgN ts n n := List.getElem_mem h
  obtain ⟨a, b, ha, hb, hab, _, he⟩ := (edgN_mem ts n n _).1 hm
  refine ⟨a, b, by rw [getD_lt h, he], ?_, by omega, ?_⟩
  · rw [Bool.and_eq_true, inr_iff, inr_iff]
    omega
  · rw [idx_tl (by rw [etl_len]; exact h)]
    simp [etl, he]
theorem edg_len {n : Nat} {ts : List (List Int)} (h : n ≤ 64) : (edgL ts n).length ≤ 4096 :=
  Nat.le_trans (edgN_len ts n n) (Nat.mul_le_mul h h)
theorem ok_of {n : Nat} {ts : List (List Int)} {p q : Int} (hv : validP n ts = true) (h : (inr n p && inr n q) = true) (hpq : p ≠ q) : okP n ts p q = true := by
  unfold okP
  rw [hv, h]
  simp [hpq]

set_option maxHeartbeats 4000000 in
theorem run428 {G : Told} : ∀ ds rs, F428 ds = some rs → ∃ fuel, run G fuel T428 ds = some (0, rs) := by
  intro ds rs h
  unfold F428 at h
  split at h <;> simp only [Option.some.injEq, reduceCtorEq] at h
  subst h
  refine ⟨0, ?_⟩
  rw [eq428]
  rfl

attribute [local irreducible] IntKind.wrap il tl vl bo mpD kD inr validP sheetP longP fsub lenP atV flC flD oneI twoI flipQ atL thirdP fgt flt fge feq flipB gnP edgL etl

set_option maxHeartbeats 4000000 in
theorem run427 {G : Told} (g417 : G 417 = F417) : ∀ ds rs, F427 ds = some rs → ∃ fuel, run G fuel T427 ds = some (0, rs) := by
  intro ds rs h
  unfold F427 at h
  split at h
  case h_2 => cases h
  rename_i p q a b
  have hl : ∃ x y, rs = [x, y] := by
    unfold F417 at h
    obtain ⟨vs, ha, h⟩ := Option.bind_eq_some_iff.1 h
    obtain ⟨ts, hb, h⟩ := Option.bind_eq_some_iff.1 h
    split at h
    · simp only [Option.some.injEq] at h
      subst h
      split <;> exact ⟨_, _, rfl⟩
    · cases h
  obtain ⟨x, y, rfl⟩ := hl
  refine ⟨0, ?_⟩
  rw [eq427]
  unfold S427
  have c : gcall G none 417 [a, b, .int p, .int q] 2 = some [x, y] := gcall_on g417 rfl h rfl
  simp only [Option.bind_some, List.getD_cons_zero, List.getD_cons_succ, c]

def bsI : Option (Nat × Nat) → D | none => .int (-1) | some (j, _) => .int j
def bsV : Option (Nat × Nat) → D | none => .flt 0 | some (_, v) => .flt v
theorem j_neg {j : Nat} : gev none (.icm .lss) [.int (j : Int), .int 0] = some (.bool false) := by
  show some (D.bool _) = _
  simp
set_option maxHeartbeats 4000000 in
theorem flip_step {G : Told} (g417 : G 417 = F417) {vs : List V3} {ts : List (List Int)} (hval : validP vs.length ts = true) {i : Nat} (hi : i < (edgL ts vs.length).length) (s : Option (Nat × Nat)) :
    S437L0 G (vl vs) (tl ts) [tl (etl (edgL ts vs.length))] [bsI s, bsV s, .int (i : Int)] = some (0, [bsI (bstS (numF vs ts) (betL true) (edgL ts vs.length) s i), bsV (bstS (numF vs ts) (betL true) (edgL ts vs.length) s i), .int ((i + 1 : Nat) : Int)]) := by
  obtain ⟨hn, _⟩ := valid_len hval
  have h0 : gev none (.icm .lss) [.int (i : Int), .int ((edgL ts vs.length).length : Int)] = some (.bool true) := by
    show some (D.bool (decide _)) = _
    simpa using hi
  have hlen := len_tl (l := etl (edgL ts vs.length))
  rw [etl_len] at hlen
  have hel := edg_len (ts := ts) hn
  have hadd := add1n (i := i) (by omega)
  obtain ⟨p, q, he, hpq, hne, hr⟩ := edg_get hi
  have r0 : gev none .idx [il [p, q], .int 0] = some (.int p) := p_j0
  have r1 : gev none .idx [il [p, q], .int 1] = some (.int q) := p_j1
  have c1 : gcall G none 417 [vl vs, tl ts, .int p, .int q] 2 = some (if flipB ts p q = true then [.flt (gnP vs ts p q), .bool true] else [.flt 0, .bool false]) := gcall_on g417 rfl (F417_m (ok_of hval hpq hne)) (by split <;> rfl)
  unfold S437L0
  cases hfl : flipB ts p q with
  | false =>
    rw [bstS_none (by rw [he]; unfold numF; rw [hfl]; rfl)]
    rw [hfl, if_neg (by simp)] at c1
    generalize edgL ts vs.length = es at *
    have f1 : True := trivial
    cases s with
    | none =>
      show _ = some (0, [D.int (-1), D.flt 0, _])
      repeat' first
        | with_reducible refine st_ift ?_
        | with_reducible refine st_iff ?_
        | (with_reducible refine st_join (ds := [.int (-1), .flt 0]) ?_ ?_ ?_)
        | ((with_reducible apply st_some); exact hlen)
        | ((with_reducible apply st_some); exact h0)
        | ((with_reducible apply st_some); exact hr)
        | ((with_reducible apply st_some); exact r0)
        | ((with_reducible apply st_some); exact r1)
        | ((with_reducible apply st_some); exact c1)
        | ((with_reducible apply st_some); exact f1)
        | ((with_reducible apply st_some); exact hadd)
        | ((with_reducible apply st_callt); assumption; exact rfl; exact rfl; assumption)
        | ((with_reducible apply st_callf); assumption; exact rfl; exact rfl; assumption)
        | ((with_reducible apply st_call); assumption; exact rfl; exact rfl; exact rfl)
        | ((with_reducible apply st_wide); exact rfl; exact rfl)
        | ((with_reducible apply st_skip); exact rfl)
        | ((with_reducible apply st_t); exact rfl; exact rfl)
        | ((with_reducible apply st_f); exact rfl; exact rfl)
        | ((with_reducible apply st_t); exact rfl; assumption)
        | ((with_reducible apply st_f); exact rfl; assumption)
        | ((with_reducible apply st_some); exact rfl)
        | exact rfl
    | some s =>
      obtain ⟨j, v⟩ := s
      show _ = some (0, [D.int j, D.flt v, _])
      unfold bsI bsV
      repeat' first
        | with_reducible refine st_ift ?_
        | with_reducible refine st_iff ?_
        | (with_reducible refine st_join (ds := [.int j, .flt v]) ?_ ?_ ?_)
        | ((with_reducible apply st_some); exact hlen)
        | ((with_reducible apply st_some); exact h0)
        | ((with_reducible apply st_some); exact hr)
        | ((with_reducible apply st_some); exact r0)
        | ((with_reducible apply st_some); exact r1)
        | ((with_reducible apply st_some); exact c1)
        | ((with_reducible apply st_some); exact f1)
        | ((with_reducible apply st_some); exact hadd)
        | ((with_reducible apply st_callt); assumption; exact rfl; exact rfl; assumption)
        | ((with_reducible apply st_callf); assumption; exact rfl; exact rfl; assumption)
        | ((with_reducible apply st_call); assumption; exact rfl; exact rfl; exact rfl)
        | ((with_reducible apply st_wide); exact rfl; exact rfl)
        | ((with_reducible apply st_skip); exact rfl)
        | ((with_reducible apply st_t); exact rfl; exact rfl)
        | ((with_reducible apply st_f); exact rfl; exact rfl)
        | ((with_reducible apply st_t); exact rfl; assumption)
        | ((with_reducible apply st_f); exact rfl; assumption)
        | ((with_reducible apply st_some); exact rfl)
        | exact rfl
  | true =>
  rw [bstS_some (x := gnP vs ts p q) (by rw [he]; unfold numF; rw [hfl]; rfl)]
  rw [hfl, if_pos rfl] at c1
  generalize edgL ts vs.length = es at *
  generalize gnP vs ts p q = L at *
  have f1 : gev none (.fcm .eql .f32) [.flt L, .flt L] = some (.bool (feq .f32 L L)) := rfl
  generalize feq .f32 L L = b at *
  cases b with
  | false =>
    cases s with
    | none =>
      show _ = some (0, [D.int (-1), D.flt 0, _])
      repeat' first
        | with_reducible refine st_ift ?_
        | with_reducible refine st_iff ?_
        | (with_reducible refine st_join (ds := [.int (-1), .flt 0]) ?_ ?_ ?_)
        | ((with_reducible apply st_some); exact hlen)
        | ((with_reducible apply st_some); exact h0)
        | ((with_reducible apply st_some); exact hr)
        | ((with_reducible apply st_some); exact r0)
        | ((with_reducible apply st_some); exact r1)
        | ((with_reducible apply st_some); exact c1)
        | ((with_reducible apply st_some); exact f1)
        | ((with_reducible apply st_some); exact hadd)
        | ((with_reducible apply st_callt); assumption; exact rfl; exact rfl; assumption)
        | ((with_reducible apply st_callf); assumption; exact rfl; exact rfl; assumption)
        | ((with_reducible apply st_call); assumption; exact rfl; exact rfl; exact rfl)
        | ((with_reducible apply st_wide); exact rfl; exact rfl)
        | ((with_reducible apply st_skip); exact rfl)
        | ((with_reducible apply st_t); exact rfl; exact rfl)
        | ((with_reducible apply st_f); exact rfl; exact rfl)
        | ((with_reducible apply st_t); exact rfl; assumption)
        | ((with_reducible apply st_f); exact rfl; assumption)
        | ((with_reducible apply st_some); exact rfl)
        | exact rfl
    | some s =>
      obtain ⟨j, v⟩ := s
      show _ = some (0, [D.int j, D.flt v, _])
      unfold bsI bsV
      repeat' first
        | with_reducible refine st_ift ?_
        | with_reducible refine st_iff ?_
        | (with_reducible refine st_join (ds := [.int j, .flt v]) ?_ ?_ ?_)
        | ((with_reducible apply st_some); exact hlen)
        | ((with_reducible apply st_some); exact h0)
        | ((with_reducible apply st_some); exact hr)
        | ((with_reducible apply st_some); exact r0)
        | ((with_reducible apply st_some); exact r1)
        | ((with_reducible apply st_some); exact c1)
        | ((with_reducible apply st_some); exact f1)
        | ((with_reducible apply st_some); exact hadd)
        | ((with_reducible apply st_callt); assumption; exact rfl; exact rfl; assumption)
        | ((with_reducible apply st_callf); assumption; exact rfl; exact rfl; assumption)
        | ((with_reducible apply st_call); assumption; exact rfl; exact rfl; exact rfl)
        | ((with_reducible apply st_wide); exact rfl; exact rfl)
        | ((with_reducible apply st_skip); exact rfl)
        | ((with_reducible apply st_t); exact rfl; exact rfl)
        | ((with_reducible apply st_f); exact rfl; exact rfl)
        | ((with_reducible apply st_t); exact rfl; assumption)
        | ((with_reducible apply st_f); exact rfl; assumption)
        | ((with_reducible apply st_some); exact rfl)
        | exact rfl
  | true =>
    cases s with
    | none =>
      show _ = some (0, [D.int i, D.flt L, _])
      repeat' first
        | with_reducible refine st_ift ?_
        | with_reducible refine st_iff ?_
        | (with_reducible refine st_join (ds := [.int i, .flt L]) ?_ ?_ ?_)
        | ((with_reducible apply st_some); exact hlen)
        | ((with_reducible apply st_some); exact h0)
        | ((with_reducible apply st_some); exact hr)
        | ((with_reducible apply st_some); exact r0)
        | ((with_reducible apply st_some); exact r1)
        | ((with_reducible apply st_some); exact c1)
        | ((with_reducible apply st_some); exact f1)
        | ((with_reducible apply st_some); exact hadd)
        | ((with_reducible apply st_callt); assumption; exact rfl; exact rfl; assumption)
        | ((with_reducible apply st_callf); assumption; exact rfl; exact rfl; assumption)
        | ((with_reducible apply st_call); assumption; exact rfl; exact rfl; exact rfl)
        | ((with_reducible apply st_wide); exact rfl; exact rfl)
        | ((with_reducible apply st_skip); exact rfl)
        | ((with_reducible apply st_t); exact rfl; exact rfl)
        | ((with_reducible apply st_f); exact rfl; exact rfl)
        | ((with_reducible apply st_t); exact rfl; assumption)
        | ((with_reducible apply st_f); exact rfl; assumption)
        | ((with_reducible apply st_some); exact rfl)
        | exact rfl
    | some s =>
      obtain ⟨j, v⟩ := s
      have hj := j_neg (j := j)
      have f2 : gev none (.fcm .gtr .f32) [.flt L, .flt v] = some (.bool (fgt .f32 L v)) := rfl
      rw [show betO (betL true) (some (j, v)) L = fgt .f32 L v from rfl]
      generalize fgt .f32 L v = b2 at *
      cases b2
      · show _ = some (0, [D.int j, D.flt v, _])
        repeat' first
          | with_reducible refine st_ift ?_
          | with_reducible refine st_iff ?_
          | (with_reducible refine st_join (ds := [.int j, .flt v]) ?_ ?_ ?_)
          | ((with_reducible apply st_some); exact hlen)
          | ((with_reducible apply st_some); exact h0)
          | ((with_reducible apply st_some); exact hr)
          | ((with_reducible apply st_some); exact r0)
          | ((with_reducible apply st_some); exact r1)
          | ((with_reducible apply st_some); exact c1)
          | ((with_reducible apply st_some); exact f1)
          | ((with_reducible apply st_some); exact hj)
          | ((with_reducible apply st_some); exact f2)
          | ((with_reducible apply st_some); exact hadd)
          | ((with_reducible apply st_callt); assumption; exact rfl; exact rfl; assumption)
          | ((with_reducible apply st_callf); assumption; exact rfl; exact rfl; assumption)
          | ((with_reducible apply st_call); assumption; exact rfl; exact rfl; exact rfl)
          | ((with_reducible apply st_wide); exact rfl; exact rfl)
          | ((with_reducible apply st_skip); exact rfl)
          | ((with_reducible apply st_t); exact rfl; exact rfl)
          | ((with_reducible apply st_f); exact rfl; exact rfl)
          | ((with_reducible apply st_t); exact rfl; assumption)
          | ((with_reducible apply st_f); exact rfl; assumption)
          | ((with_reducible apply st_some); exact rfl)
          | exact rfl
      · show _ = some (0, [D.int i, D.flt L, _])
        repeat' first
          | with_reducible refine st_ift ?_
          | with_reducible refine st_iff ?_
          | (with_reducible refine st_join (ds := [.int i, .flt L]) ?_ ?_ ?_)
          | ((with_reducible apply st_some); exact hlen)
          | ((with_reducible apply st_some); exact h0)
          | ((with_reducible apply st_some); exact hr)
          | ((with_reducible apply st_some); exact r0)
          | ((with_reducible apply st_some); exact r1)
          | ((with_reducible apply st_some); exact c1)
          | ((with_reducible apply st_some); exact f1)
          | ((with_reducible apply st_some); exact hj)
          | ((with_reducible apply st_some); exact f2)
          | ((with_reducible apply st_some); exact hadd)
          | ((with_reducible apply st_callt); assumption; exact rfl; exact rfl; assumption)
          | ((with_reducible apply st_callf); assumption; exact rfl; exact rfl; assumption)
          | ((with_reducible apply st_call); assumption; exact rfl; exact rfl; exact rfl)
          | ((with_reducible apply st_wide); exact rfl; exact rfl)
          | ((with_reducible apply st_skip); exact rfl)
          | ((with_reducible apply st_t); exact rfl; exact rfl)
          | ((with_reducible apply st_f); exact rfl; exact rfl)
          | ((with_reducible apply st_t); exact rfl; assumption)
          | ((with_reducible apply st_f); exact rfl; assumption)
          | ((with_reducible apply st_some); exact rfl)
          | exact rfl

set_option maxHeartbeats 4000000 in
theorem run437 {G : Told} (g413 : G 413 = F413) (g417 : G 417 = F417) : ∀ ds rs, F437 ds = some rs → ∃ fuel, run G fuel T437 ds = some (0, rs) := by
  intro ds rs h
  unfold F437 at h
  split at h
  case h_2 => cases h
  rename_i a b
  obtain ⟨vs, ha, h⟩ := Option.bind_eq_some_iff.1 h
  obtain ⟨ts, hb, h⟩ := Option.bind_eq_some_iff.1 h
  rw [dV_inv ha, dT_inv hb]
  split at h
  case isFalse => cases h
  rename_i hc
  simp only [Option.some.injEq] at h
  subst h
  clear ha
  clear hb
  obtain ⟨hn, _⟩ := valid_len hc
  have hel := edg_len (ts := ts) hn
  refine ⟨100000, ?_⟩
  rw [eq437]
  unfold S437
  have c0 : gcall G none 413 [vl vs, tl ts] 1 = some [tl (etl (edgL ts vs.length))] := gcall_on g413 rfl (F413_m hc) rfl
  have hlen := len_tl (l := etl (edgL ts vs.length))
  rw [etl_len] at hlen
  have hit : iter (tbody 3 (S437L0 G (vl vs) (tl ts) [tl (etl (edgL ts vs.length))])) 100000 [.int (-1), .flt 0, .int 0] = some (0, [bsI (bstN (numF vs ts) (betL true) (edgL ts vs.length) (edgL ts vs.length).length), bsV (bstN (numF vs ts) (betL true) (edgL ts vs.length) (edgL ts vs.length).length), .int ((edgL ts vs.length).length : Int), .int ((edgL ts vs.length).length : Int), .int ((edgL ts vs.length).length : Int), .bool false]) := by
    refine iter_to (body := tbody 3 (S437L0 G (vl vs) (tl ts) [tl (etl (edgL ts vs.length))])) (n := (edgL ts vs.length).length) (f := 100000) (l := 0) (fun i => [bsI (bstN (numF vs ts) (betL true) (edgL ts vs.length) i), bsV (bstN (numF vs ts) (betL true) (edgL ts vs.length) i), .int (i : Int)]) (by omega) (fun i hi => ?_) ?_
    · exact tb rfl (flip_step g417 hc hi _)
    · refine tb rfl ?_
      have h0 : decide (((edgL ts vs.length).length : Int) < ((edgL ts vs.length).length : Int)) = false := by simp
      unfold S437L0
      simp only [t_f, p_lss, p_add, Option.bind_some, List.getD_cons_zero, List.getD_cons_succ, Nat.zero_add, h0, hlen]
  unfold bstP
  have hlt := fun j v => @bstN_lt (numF vs ts) (betL true) (edgL ts vs.length) (edgL ts vs.length).length j v
  generalize bstN (numF vs ts) (betL true) (edgL ts vs.length) (edgL ts vs.length).length = s at *
  cases s with
  | none =>
    have hit : iter (tbody 3 (S437L0 G (vl vs) (tl ts) [tl (etl (edgL ts vs.length))])) 100000 [.int (-1), .flt 0, .int 0] = some (0, [.int (-1), .flt 0, .int ((edgL ts vs.length).length : Int), .int ((edgL ts vs.length).length : Int), .int ((edgL ts vs.length).length : Int), .bool false]) := hit
    have hz : decide ((-1 : Int) < 0) = true := by decide
    rw [bstR_none]
    simp only [t_t, j_0, p_lss, Option.bind_some, List.getD_cons_zero, List.getD_cons_succ, List.length_cons, List.length_nil, Nat.zero_add, Nat.reduceAdd, if_true, c0, hit, hz, ← il_nil]
  | some s =>
    obtain ⟨j, v⟩ := s
    have hit : iter (tbody 3 (S437L0 G (vl vs) (tl ts) [tl (etl (edgL ts vs.length))])) 100000 [.int (-1), .flt 0, .int 0] = some (0, [.int (j : Int), .flt v, .int ((edgL ts vs.length).length : Int), .int ((edgL ts vs.length).length : Int), .int ((edgL ts vs.length).length : Int), .bool false]) := hit
    have hz : decide ((j : Int) < 0) = false := by simp
    obtain ⟨p, q, he, hpq, hne, hr⟩ := edg_get (hlt j v rfl)
    rw [bstR_some he]
    simp only [t_f, j_0, p_lss, Option.bind_some, List.getD_cons_zero, List.getD_cons_succ, List.length_cons, List.length_nil, Nat.zero_add, Nat.reduceAdd, if_true, c0, hit, hz, hr]

set_option maxHeartbeats 4000000 in
theorem run436s {G : Told} (g150 : G 150 = F150) (g414 : G 414 = F414) (g437 : G 437 = F437) : ∀ ds rs, F436 ds = some rs → ∃ fuel, run G fuel T436s ds = some (0, rs) := by
  intro ds rs h
  unfold F436 at h
  split at h
  case h_2 => cases h
  rename_i a b
  obtain ⟨vs, ha, h⟩ := Option.bind_eq_some_iff.1 h
  obtain ⟨ts, hb, h⟩ := Option.bind_eq_some_iff.1 h
  rw [dV_inv ha, dT_inv hb]
  split at h
  case isFalse => cases h
  rename_i hc
  simp only [Option.some.injEq] at h
  subst h
  clear ha
  clear hb
  refine ⟨0, ?_⟩
  rw [eq436s]
  unfold S436s
  have c0 : gcall G none 150 [vl vs, tl ts] 1 = some [.bool (validP vs.length ts)] := gcall_on g150 rfl (F150_m hc) rfl
  cases hval : validP vs.length ts with
  | false =>
    rw [hval] at c0
    rw [if_neg (by simp)]
    rw [bstR_none]
    simp only [g_tf, c_tf, t_t, p_pt, p_bnot, Option.bind_some, List.getD_cons_zero, List.replicate, Bool.not_false, c0, ← il_nil]
  | true =>
    rw [hval] at c0
    have c2 : gcall G none 414 [vl vs, tl ts] 1 = some [.bool (sheetP ts)] := gcall_on g414 rfl (F414_m hval) rfl
    generalize sheetP ts = bs at *
    cases bs with
    | false =>
      rw [if_neg (by simp)]
      rw [bstR_none]
      simp only [g_ff, c_ff, t_t, p_pf, p_bnot, Option.bind_some, List.getD_cons_zero, Bool.not_true, Bool.not_false, c0, c2, ← il_nil]
    | true =>
    rw [if_pos (show (true && true) = true from rfl)]
    obtain ⟨l, x, b, e, _⟩ := bst3 (edgL ts vs.length) (bstN (numF vs ts) (betL true) (edgL ts vs.length) (edgL ts vs.length).length)
    have c1 : gcall G none 437 [vl vs, tl ts] 3 = some (bstP (numF vs ts) (betL true) (edgL ts vs.length)) := gcall_on g437 rfl (F437_m hval) (by unfold bstP; rw [e]; rfl)
    unfold bstP at c1 ⊢
    rw [e] at c1 ⊢
    simp only [g_ff, c_ff, t_f, p_pf, p_bnot, Option.bind_some, List.getD_cons_zero, List.getD_cons_succ, Bool.not_true, c0, c2, c1]

attribute [local irreducible] tif tjoin fadd fmul fdiv i2f sameP wide eqV totL szM szP marksV marksT triP bstR bstP

set_option maxHeartbeats 4000000 in
theorem run466 {G : Told} (g4 : G 4 = F4) (g100 : G 100 = F100) (g102 : G 102 = F102) (g104 : G 104 = F104) (g142 : G 142 = F142) (g145 : G 145 = F145) (g146 : G 146 = F146) (g147 : G 147 = F147) (g436 : G 436 = F436) : ∀ ds rs, F466 ds = some rs → ∃ fuel, run G fuel T466 ds = some (0, rs) := by
  intro ds rs h
  unfold F466 at h
  split at h
  case h_2 => cases h
  rename_i a b
  obtain ⟨vs, ha, h⟩ := Option.bind_eq_some_iff.1 h
  obtain ⟨ts, hb, h⟩ := Option.bind_eq_some_iff.1 h
  rw [dV_inv ha, dT_inv hb]
  split at h
  case isFalse => cases h
  rename_i hc
  simp only [Option.some.injEq] at h
  subst h
  clear ha
  clear hb
  refine ⟨0, ?_⟩
  rw [eq466]
  unfold S466
  have z1 := F142_m hc
  by_cases hsz : szM vs ts ≤ 1048576
  case neg =>
    rw [szP_neg hsz] at z1
    repeat' first
      | with_reducible refine st_ift ?_
      | with_reducible refine st_iff ?_
      | ((with_reducible apply st_call); exact g142; exact rfl; exact z1; exact rfl)
      | ((with_reducible apply st_callt); assumption; exact rfl; exact rfl; assumption)
      | ((with_reducible apply st_callf); assumption; exact rfl; exact rfl; assumption)
      | ((with_reducible apply st_call); assumption; exact rfl; exact rfl; exact rfl)
      | ((with_reducible apply st_wide); exact rfl; exact rfl)
      | ((with_reducible apply st_skip); exact rfl)
      | ((with_reducible apply st_t); exact rfl; exact rfl)
      | ((with_reducible apply st_f); exact rfl; exact rfl)
      | ((with_reducible apply st_t); exact rfl; assumption)
      | ((with_reducible apply st_f); exact rfl; assumption)
      | ((with_reducible apply st_some); exact rfl)
      | exact rfl
  rw [szP_pos hsz] at z1
  have d1 : decide ((1048576 : Int) - (szM vs ts : Nat) < 0) = false := by simp; omega
  have hz : szM vs ts = vs.length + ts.length + totL ts := by unfold szM; rfl
  have t1 := F145_m hsz
  have q1 := F146_m hsz
  have m1 := F147_m (m := 1) hsz (by omega) (by omega)
  have d3 : decide ((1 : Int) + 3 * vs.length + totL ts < 0) = false := by simp; omega
  have hr : ∃ l x b, F436 [vl vs, tl ts] = some [il l, .flt x, .bool b] ∧ l.length ≤ 1048576 := by
    rw [F436_m hsz]
    split
    · unfold bstP
      obtain ⟨l, x, b, e, h⟩ := bst3 (edgL ts vs.length) (bstN (numF vs ts) (betL true) (edgL ts vs.length) (edgL ts vs.length).length)
      exact ⟨l, x, b, by rw [e], h⟩
    · obtain ⟨l, x, b, e, h⟩ := bst3 [] none
      exact ⟨l, x, b, by rw [e], h⟩
  obtain ⟨l, x, b, hr, hu⟩ := hr
  have a1 := F100_il hu
  have m3 := F102_il (m := 1) hu (by omega) (by omega)
  have n3 := F104_mk (m := 1) hu (by omega) (by omega)
  have d4 : decide ((1 : Int) + l.length < 0) = false := by simp; omega
  have d5 : ((1 : Int) + l.length != 1 + l.length) = false := by simp
  have h4 : F4 [.flt (wide x), .flt (wide x)] = some [.bool true] := by simp only [F4, sameP_self]
  cases b
  · repeat' first
      | with_reducible refine st_ift ?_
      | with_reducible refine st_iff ?_
      | ((with_reducible apply st_call); exact g142; exact rfl; exact z1; exact rfl)
      | ((with_reducible apply st_call); exact g436; exact rfl; exact hr; exact rfl)
      | ((with_reducible apply st_call); exact g145; exact rfl; exact t1; exact rfl)
      | ((with_reducible apply st_call); exact g146; exact rfl; exact q1; exact rfl)
      | ((with_reducible apply st_call); exact g147; exact rfl; exact m1; exact rfl)
      | ((with_reducible apply st_call); exact g100; exact rfl; exact a1; exact rfl)
      | ((with_reducible apply st_call); exact g102; exact rfl; exact m3; exact rfl)
      | ((with_reducible apply st_call); exact g104; exact rfl; exact n3; exact rfl)
      | ((with_reducible apply st_call); exact g4; exact rfl; exact h4; exact rfl)
      | ((with_reducible apply st_callf); exact g4; exact rfl; exact rfl; exact h4)
      | ((with_reducible apply st_callf); exact g100; exact rfl; exact rfl; exact a1)
      | ((with_reducible apply st_callt); assumption; exact rfl; exact rfl; assumption)
      | ((with_reducible apply st_callf); assumption; exact rfl; exact rfl; assumption)
      | ((with_reducible apply st_call); assumption; exact rfl; exact rfl; exact rfl)
      | ((with_reducible apply st_wide); exact rfl; exact rfl)
      | ((with_reducible apply st_skip); exact rfl)
      | ((with_reducible apply st_t); exact rfl; exact rfl)
      | ((with_reducible apply st_f); exact rfl; exact rfl)
      | ((with_reducible apply st_t); exact rfl; assumption)
      | ((with_reducible apply st_f); exact rfl; assumption)
      | ((with_reducible apply st_some); exact rfl)
      | exact rfl
  · repeat' first
      | with_reducible refine st_ift ?_
      | with_reducible refine st_iff ?_
      | ((with_reducible apply st_call); exact g142; exact rfl; exact z1; exact rfl)
      | ((with_reducible apply st_call); exact g436; exact rfl; exact hr; exact rfl)
      | ((with_reducible apply st_call); exact g145; exact rfl; exact t1; exact rfl)
      | ((with_reducible apply st_call); exact g146; exact rfl; exact q1; exact rfl)
      | ((with_reducible apply st_call); exact g147; exact rfl; exact m1; exact rfl)
      | ((with_reducible apply st_call); exact g100; exact rfl; exact a1; exact rfl)
      | ((with_reducible apply st_call); exact g102; exact rfl; exact m3; exact rfl)
      | ((with_reducible apply st_call); exact g104; exact rfl; exact n3; exact rfl)
      | ((with_reducible apply st_call); exact g4; exact rfl; exact h4; exact rfl)
      | ((with_reducible apply st_callf); exact g4; exact rfl; exact rfl; exact h4)
      | ((with_reducible apply st_callf); exact g100; exact rfl; exact rfl; exact a1)
      | ((with_reducible apply st_callt); assumption; exact rfl; exact rfl; assumption)
      | ((with_reducible apply st_callf); assumption; exact rfl; exact rfl; assumption)
      | ((with_reducible apply st_call); assumption; exact rfl; exact rfl; exact rfl)
      | ((with_reducible apply st_wide); exact rfl; exact rfl)
      | ((with_reducible apply st_skip); exact rfl)
      | ((with_reducible apply st_t); exact rfl; exact rfl)
      | ((with_reducible apply st_f); exact rfl; exact rfl)
      | ((with_reducible apply st_t); exact rfl; assumption)
      | ((with_reducible apply st_f); exact rfl; assumption)
      | ((with_reducible apply st_some); exact rfl)
      | exact rfl


end Vs
