/-
  AreColours and WorstSpring: what the functions compute, and the laws.
-/
import Derived.Test.YtfpmhmngebnphaaK10
namespace Vs
open Go

def meetS (s t : Sp) : Bool := s.a == t.a || s.a == t.b || s.b == t.a || s.b == t.b
def clash (ss : List Sp) (cs : List Int) (i k : Nat) : Bool := (cs.getD k 0 == cs.getD i 0) && meetS (ss.getD i ⟨0, 0, 0, 0⟩) (ss.getD k ⟨0, 0, 0, 0⟩)
def rangeP (p : Int) : Bool := decide (0 ≤ p) && decide (p ≤ 200)
def goodC (ss : List Sp) (cs : List Int) (i : Nat) : Bool := rangeP (cs.getD i 0) && (List.range i).all fun k => !clash ss cs i k
def areQ (ss : List Sp) (cs : List Int) : Bool := decide (cs.length = ss.length) && (List.range cs.length).all (goodC ss cs)
theorem F19_range (p : Int) : F19 [.int p, .int 0, .int 200] = some [.bool (rangeP p)] := rfl
def F196 : List D → Option (List D)
  | [.int a, .int b, .flt l, .flt k, .int a2, .int b2, .flt l2, .flt k2] => some [.bool (meetS ⟨a, b, l, k⟩ ⟨a2, b2, l2, k2⟩)]
  | _ => none
theorem F196_m (s t : Sp) : F196 [.int s.a, .int s.b, .flt s.l, .flt s.k, .int t.a, .int t.b, .flt t.l, .flt t.k] = some [.bool (meetS s t)] := rfl
open Classical in
noncomputable def F197 (ds : List D) : Option (List D) := (dB ds).bind fun p => if h : ∃ cs, p.2 = [il cs] ∧ szB p.1 ≤ 1048576 ∧ cs.length ≤ 1048576 then some [.bool (areQ p.1.ss h.choose)] else none
open Classical in
noncomputable def F198 (ds : List D) : Option (List D) := (dB ds).bind fun p => if h : ∃ cs, p.2 = [il cs] ∧ szB p.1 ≤ 1048576 ∧ cs.length ≤ 1048576 then some [.bool (validB p.1 && areQ p.1.ss h.choose)] else none
theorem il_inj {a b : List Int} (h : il a = il b) : a = b := by
  have := congrArg unil h
  rwa [unil_il, unil_il] at this
theorem F197_m {B : Bd} {cs : List Int} (h : szB B ≤ 1048576) (h1 : cs.length ≤ 1048576) : F197 (bd B ++ [il cs]) = some [.bool (areQ B.ss cs)] := by
  have hx : ∃ cs', [il cs] = [il cs'] ∧ szB B ≤ 1048576 ∧ cs'.length ≤ 1048576 := ⟨cs, rfl, h, h1⟩
  simp only [F197, dB_bd, Option.bind_some]
  rw [dif_pos hx]
  have hs := hx.choose_spec.1
  generalize hx.choose = c at hs ⊢
  simp only [List.cons.injEq, and_true] at hs
  rw [il_inj hs]
theorem F198_m {B : Bd} {cs : List Int} (h : szB B ≤ 1048576) (h1 : cs.length ≤ 1048576) : F198 (bd B ++ [il cs]) = some [.bool (validB B && areQ B.ss cs)] := by
  have hx : ∃ cs', [il cs] = [il cs'] ∧ szB B ≤ 1048576 ∧ cs'.length ≤ 1048576 := ⟨cs, rfl, h, h1⟩
  simp only [F198, dB_bd, Option.bind_some]
  rw [dif_pos hx]
  have hs := hx.choose_spec.1
  generalize hx.choose = c at hs ⊢
  simp only [List.cons.injEq, and_true] at hs
  rw [il_inj hs]
open Classical in
noncomputable def F199 (ds : List D) : Option (List D) := (dB ds).bind fun p => if ∃ cs, p.2 = [il cs] ∧ lawB p.1 ∧ cs.length < 9223372036854775808 then some [.bool true] else none

/-- How far a spring is from its length. -/
def wsE (vs : List V3) (s : Sp) : Nat :=
  if flt .f32 (fsub .f32 (longV (lessV (plc vs s.b) (plc vs s.a))) s.l) 0 then fneg .f32 (fsub .f32 (longV (lessV (plc vs s.b) (plc vs s.a))) s.l) else fsub .f32 (longV (lessV (plc vs s.b) (plc vs s.a))) s.l
def wsStep (p : Int × Nat) (i : Nat) (e : Nat) : Int × Nat := if feq .f32 e e && (decide (p.1 < 0) || fgt .f32 e p.2) then ((i : Int), e) else p
def wsN (vs : List V3) (ss : List Sp) : Nat → Int × Nat
  | 0 => (-1, 0)
  | n + 1 => wsStep (wsN vs ss n) n (wsE vs (ss.getD n ⟨0, 0, 0, 0⟩))
noncomputable def worstP (B : Bd) : List D :=
  if validB B = true then if (wsN B.vs B.ss B.ss.length).1 < 0 then [.int 0, .flt 0, .bool false] else [.int (wsN B.vs B.ss B.ss.length).1, .flt (wsN B.vs B.ss B.ss.length).2, .bool true] else [.int 0, .flt 0, .bool false]
open Classical in
noncomputable def F200 (ds : List D) : Option (List D) := (dB ds).bind fun p => if p.2 = [] ∧ szB p.1 ≤ 1048576 then some (worstP p.1) else none
open Classical in
noncomputable def F201 (ds : List D) : Option (List D) := (dB ds).bind fun p => if h : ∃ s : Sp, p.2 = [.int s.a, .int s.b, .flt s.l, .flt s.k] ∧ inr p.1.vs.length s.a = true ∧ inr p.1.vs.length s.b = true then some (nds (lessV (plc p.1.vs h.choose.b) (plc p.1.vs h.choose.a))) else none
open Classical in
noncomputable def F202 (ds : List D) : Option (List D) := (dB ds).bind fun p => if p.2 = [] ∧ lawB p.1 then some [.bool true] else none
theorem F200_m {B : Bd} (h : szB B ≤ 1048576) : F200 (bd B) = some (worstP B) := by
  simp only [F200, dB_bd0, Option.bind_some]
  exact if_pos ⟨trivial, h⟩
theorem F201_m {B : Bd} {s : Sp} (ha : inr B.vs.length s.a = true) (hb : inr B.vs.length s.b = true) : F201 (bd B ++ [.int s.a, .int s.b, .flt s.l, .flt s.k]) = some (nds (lessV (plc B.vs s.b) (plc B.vs s.a))) := by
  have hx : ∃ t : Sp, ([.int s.a, .int s.b, .flt s.l, .flt s.k] : List D) = [.int t.a, .int t.b, .flt t.l, .flt t.k] ∧ inr B.vs.length t.a = true ∧ inr B.vs.length t.b = true := ⟨s, rfl, ha, hb⟩
  simp only [F201, dB_bd, Option.bind_some]
  rw [dif_pos hx]
  have hs := hx.choose_spec.1
  generalize hx.choose = c at hs ⊢
  simp only [List.cons.injEq, D.int.injEq, D.flt.injEq, and_true] at hs
  rw [hs.1, hs.2.1]

def T196 : T :=
(.op none (.icm .eql) [(.v 0), (.v 4)] <|
(.op (some ((.v 8), false)) .id [(.v 0)] <|
(.op (some ((.v 8), false)) .id [(.v 5)] <|
(.op (some ((.v 8), false)) (.icm .eql) [(.v 9), (.v 10)] <|
(.op none .pick [(.v 8), (.c (.bool true)), (.v 11)] <|
(.op (some ((.v 12), false)) .id [(.v 1)] <|
(.op (some ((.v 12), false)) .id [(.v 4)] <|
(.op (some ((.v 12), false)) (.icm .eql) [(.v 13), (.v 14)] <|
(.op none .pick [(.v 12), (.c (.bool true)), (.v 15)] <|
(.op (some ((.v 16), false)) .id [(.v 1)] <|
(.op (some ((.v 16), false)) .id [(.v 5)] <|
(.op (some ((.v 16), false)) (.icm .eql) [(.v 17), (.v 18)] <|
(.op none .pick [(.v 16), (.c (.bool true)), (.v 19)] <|
(.out 0 [(.v 20)]))))))))))))))
def S196 (_G : Told) (_fuel : Nat) (x0 x1 _x2 _x3 x4 x5 _x6 _x7 : D) : Option (Nat × List D) :=
  (gev none (.icm .eql) [x0, x4]).bind fun x8 =>
  (gev (some (x8, false)) .id [x0]).bind fun x9 =>
  (gev (some (x8, false)) .id [x5]).bind fun x10 =>
  (gev (some (x8, false)) (.icm .eql) [x9, x10]).bind fun x11 =>
  (gev none .pick [x8, (.bool true), x11]).bind fun x12 =>
  (gev (some (x12, false)) .id [x1]).bind fun x13 =>
  (gev (some (x12, false)) .id [x4]).bind fun x14 =>
  (gev (some (x12, false)) (.icm .eql) [x13, x14]).bind fun x15 =>
  (gev none .pick [x12, (.bool true), x15]).bind fun x16 =>
  (gev (some (x16, false)) .id [x1]).bind fun x17 =>
  (gev (some (x16, false)) .id [x5]).bind fun x18 =>
  (gev (some (x16, false)) (.icm .eql) [x17, x18]).bind fun x19 =>
  (gev none .pick [x16, (.bool true), x19]).bind fun x20 =>
  some (0, [x20])
theorem eq196 {G : Told} {fuel : Nat} (x0 x1 x2 x3 x4 x5 x6 x7 : D) : run G fuel T196 [x0, x1, x2, x3, x4, x5, x6, x7] = S196 G fuel x0 x1 x2 x3 x4 x5 x6 x7 := by
  rw [run_eq]; kernel_rfl

def T197 : T :=
(.op none .len [(.v 9)] <|
(.op none .len [(.v 2)] <|
(.op none (.icm .neq) [(.v 10), (.v 11)] <|
(.ite (.v 12)
  (.out 0 [(.c (.bool false))])
  (.op none .len [(.v 9)] <|
  (.join 2
    (.loop [(.c (.int 0))]
      (.op none (.icm .lss) [(.v 14), (.v 13)] <|
      (.ite (.v 15)
        (.op none .idx [(.v 9), (.v 14)] <|
        (.call none 19 [(.v 16), (.c (.int 0)), (.c (.int 200))] 1 <|
        (.op none .bnot [(.v 17)] <|
        (.ite (.v 18)
          (.out 2 [(.c (.bool false))])
          (.join 3
            (.loop [(.c (.int 0))]
              (.op none (.icm .lss) [(.v 19), (.v 14)] <|
              (.ite (.v 20)
                (.op none .idx [(.v 9), (.v 19)] <|
                (.op none .idx [(.v 9), (.v 14)] <|
                (.op none (.icm .eql) [(.v 21), (.v 22)] <|
                (.op (some ((.v 23), true)) .id [(.v 2)] <|
                (.op (some ((.v 23), true)) .id [(.v 14)] <|
                (.op (some ((.v 23), true)) .idx [(.v 24), (.v 25)] <|
                (.op (some ((.v 23), true)) (.proj 0) [(.v 26)] <|
                (.op (some ((.v 23), true)) (.proj 1) [(.v 26)] <|
                (.op (some ((.v 23), true)) (.proj 2) [(.v 26)] <|
                (.op (some ((.v 23), true)) (.proj 3) [(.v 26)] <|
                (.op (some ((.v 23), true)) .id [(.v 2)] <|
                (.op (some ((.v 23), true)) .id [(.v 19)] <|
                (.op (some ((.v 23), true)) .idx [(.v 31), (.v 32)] <|
                (.op (some ((.v 23), true)) (.proj 0) [(.v 33)] <|
                (.op (some ((.v 23), true)) (.proj 1) [(.v 33)] <|
                (.op (some ((.v 23), true)) (.proj 2) [(.v 33)] <|
                (.op (some ((.v 23), true)) (.proj 3) [(.v 33)] <|
                (.call (some ((.v 23), true)) 196 [(.v 27), (.v 28), (.v 29), (.v 30), (.v 34), (.v 35), (.v 36), (.v 37)] 1 <|
                (.op none .pick [(.v 23), (.v 38), (.c (.bool false))] <|
                (.ite (.v 39)
                  (.out 4 [(.c (.bool false))])
                  (.op none (.iar .add .i64) [(.v 19), (.c (.int 1))] <|
                  (.out 0 [(.v 40)]))))))))))))))))))))))
                (.out 1 [(.v 19), (.v 19), (.v 20)]))))
          (.op none (.iar .add .i64) [(.v 14), (.c (.int 1))] <|
          (.out 0 [(.v 22)])))))))
        (.out 1 [(.v 14), (.v 15)]))))
  (.out 0 [(.c (.bool true))])))))))
def S197L0 (G : Told) (x2 : D) (x9 : D) (e14 : List D) : List D → Option (Nat × List D) := fun e19 =>
                (gev none (.icm .lss) [(e19.getD 0 .undef), (e14.getD 0 .undef)]).bind fun x20 =>
                tif x20 (
                  (gev none .idx [x9, (e19.getD 0 .undef)]).bind fun x21 =>
                  (gev none .idx [x9, (e14.getD 0 .undef)]).bind fun x22 =>
                  (gev none (.icm .eql) [x21, x22]).bind fun x23 =>
                  (gev (some (x23, true)) .id [x2]).bind fun x24 =>
                  (gev (some (x23, true)) .id [(e14.getD 0 .undef)]).bind fun x25 =>
                  (gev (some (x23, true)) .idx [x24, x25]).bind fun x26 =>
                  (gev (some (x23, true)) (.proj 0) [x26]).bind fun x27 =>
                  (gev (some (x23, true)) (.proj 1) [x26]).bind fun x28 =>
                  (gev (some (x23, true)) (.proj 2) [x26]).bind fun x29 =>
                  (gev (some (x23, true)) (.proj 3) [x26]).bind fun x30 =>
                  (gev (some (x23, true)) .id [x2]).bind fun x31 =>
                  (gev (some (x23, true)) .id [(e19.getD 0 .undef)]).bind fun x32 =>
                  (gev (some (x23, true)) .idx [x31, x32]).bind fun x33 =>
                  (gev (some (x23, true)) (.proj 0) [x33]).bind fun x34 =>
                  (gev (some (x23, true)) (.proj 1) [x33]).bind fun x35 =>
                  (gev (some (x23, true)) (.proj 2) [x33]).bind fun x36 =>
                  (gev (some (x23, true)) (.proj 3) [x33]).bind fun x37 =>
                  (gcall G (some (x23, true)) 196 [x27, x28, x29, x30, x34, x35, x36, x37] 1).bind fun e38 =>
                  (gev none .pick [x23, (e38.getD 0 .undef), (.bool false)]).bind fun x39 =>
                  tif x39 (
                    some (4, [(.bool false)])) (
                    (gev none (.iar .add .i64) [(e19.getD 0 .undef), (.int 1)]).bind fun x40 =>
                    some (0, [x40]))) (
                  some (1, [(e19.getD 0 .undef), (e19.getD 0 .undef), x20]))
def S197L1 (G : Told) (fuel : Nat) (x2 : D) (x9 : D) (x13 : D) : List D → Option (Nat × List D) := fun e14 =>
        (gev none (.icm .lss) [(e14.getD 0 .undef), x13]).bind fun x15 =>
        tif x15 (
          (gev none .idx [x9, (e14.getD 0 .undef)]).bind fun x16 =>
          (gcall G none 19 [x16, (.int 0), (.int 200)] 1).bind fun e17 =>
          (gev none .bnot [(e17.getD 0 .undef)]).bind fun x18 =>
          tif x18 (
            some (2, [(.bool false)])) (
            tjoin 3 (
              iter (tbody 1 (S197L0 G x2 x9 e14)) fuel [(.int 0)]) fun _e19 =>
            (gev none (.iar .add .i64) [(e14.getD 0 .undef), (.int 1)]).bind fun x22 =>
            some (0, [x22]))) (
          some (1, [(e14.getD 0 .undef), x15]))
def S197 (G : Told) (fuel : Nat) (_x0 _x1 x2 _x3 _x4 _x5 _x6 _x7 _x8 x9 : D) : Option (Nat × List D) :=
  (gev none .len [x9]).bind fun x10 =>
  (gev none .len [x2]).bind fun x11 =>
  (gev none (.icm .neq) [x10, x11]).bind fun x12 =>
  tif x12 (
    some (0, [(.bool false)])) (
    (gev none .len [x9]).bind fun x13 =>
    tjoin 2 (
      iter (tbody 1 (S197L1 G fuel x2 x9 x13)) fuel [(.int 0)]) fun _e14 =>
    some (0, [(.bool true)]))
theorem eq197 {G : Told} {fuel : Nat} (x0 x1 x2 x3 x4 x5 x6 x7 x8 x9 : D) : run G fuel T197 [x0, x1, x2, x3, x4, x5, x6, x7, x8, x9] = S197 G fuel x0 x1 x2 x3 x4 x5 x6 x7 x8 x9 := by
  rw [run_eq]; kernel_rfl

def T198 : T :=
(.call none 195 [(.v 0), (.v 1), (.v 2), (.v 3), (.v 4), (.v 5), (.v 6), (.v 7), (.v 8)] 1 <|
(.op none .bnot [(.v 10)] <|
(.op (some ((.v 11), false)) .id [(.v 9)] <|
(.op (some ((.v 11), false)) .len [(.v 12)] <|
(.op (some ((.v 11), false)) .id [(.v 2)] <|
(.op (some ((.v 11), false)) .len [(.v 14)] <|
(.op (some ((.v 11), false)) (.icm .neq) [(.v 13), (.v 15)] <|
(.op none .pick [(.v 11), (.c (.bool true)), (.v 16)] <|
(.ite (.v 17)
  (.out 0 [(.c (.bool false))])
  (.op none .len [(.v 9)] <|
  (.join 2
    (.loop [(.c (.int 0))]
      (.op none (.icm .lss) [(.v 19), (.v 18)] <|
      (.ite (.v 20)
        (.op none .idx [(.v 9), (.v 19)] <|
        (.call none 19 [(.v 21), (.c (.int 0)), (.c (.int 200))] 1 <|
        (.op none .bnot [(.v 22)] <|
        (.ite (.v 23)
          (.out 2 [(.c (.bool false))])
          (.join 2
            (.loop [(.c (.int 0))]
              (.op none (.icm .lss) [(.v 24), (.v 19)] <|
              (.ite (.v 25)
                (.op none .idx [(.v 9), (.v 24)] <|
                (.op none (.icm .eql) [(.v 26), (.v 21)] <|
                (.op (some ((.v 27), true)) .id [(.v 2)] <|
                (.op (some ((.v 27), true)) .id [(.v 19)] <|
                (.op (some ((.v 27), true)) .idx [(.v 28), (.v 29)] <|
                (.op (some ((.v 27), true)) (.proj 0) [(.v 30)] <|
                (.op (some ((.v 27), true)) (.proj 1) [(.v 30)] <|
                (.op (some ((.v 27), true)) (.proj 2) [(.v 30)] <|
                (.op (some ((.v 27), true)) (.proj 3) [(.v 30)] <|
                (.op (some ((.v 27), true)) .id [(.v 2)] <|
                (.op (some ((.v 27), true)) .id [(.v 24)] <|
                (.op (some ((.v 27), true)) .idx [(.v 35), (.v 36)] <|
                (.op (some ((.v 27), true)) (.proj 0) [(.v 37)] <|
                (.op (some ((.v 27), true)) (.proj 1) [(.v 37)] <|
                (.op (some ((.v 27), true)) (.proj 2) [(.v 37)] <|
                (.op (some ((.v 27), true)) (.proj 3) [(.v 37)] <|
                (.call (some ((.v 27), true)) 196 [(.v 31), (.v 32), (.v 33), (.v 34), (.v 38), (.v 39), (.v 40), (.v 41)] 1 <|
                (.op none .pick [(.v 27), (.v 42), (.c (.bool false))] <|
                (.ite (.v 43)
                  (.out 4 [(.c (.bool false))])
                  (.op none (.iar .add .i64) [(.v 24), (.c (.int 1))] <|
                  (.out 0 [(.v 44)])))))))))))))))))))))
                (.out 1 [(.v 24), (.v 25)]))))
          (.op none (.iar .add .i64) [(.v 19), (.c (.int 1))] <|
          (.out 0 [(.v 26)])))))))
        (.out 1 [(.v 19), (.v 20)]))))
  (.out 0 [(.c (.bool true))]))))))))))))
def S198L0 (G : Told) (x2 : D) (x9 : D) (e19 : List D) (x21 : D) : List D → Option (Nat × List D) := fun e24 =>
                (gev none (.icm .lss) [(e24.getD 0 .undef), (e19.getD 0 .undef)]).bind fun x25 =>
                tif x25 (
                  (gev none .idx [x9, (e24.getD 0 .undef)]).bind fun x26 =>
                  (gev none (.icm .eql) [x26, x21]).bind fun x27 =>
                  (gev (some (x27, true)) .id [x2]).bind fun x28 =>
                  (gev (some (x27, true)) .id [(e19.getD 0 .undef)]).bind fun x29 =>
                  (gev (some (x27, true)) .idx [x28, x29]).bind fun x30 =>
                  (gev (some (x27, true)) (.proj 0) [x30]).bind fun x31 =>
                  (gev (some (x27, true)) (.proj 1) [x30]).bind fun x32 =>
                  (gev (some (x27, true)) (.proj 2) [x30]).bind fun x33 =>
                  (gev (some (x27, true)) (.proj 3) [x30]).bind fun x34 =>
                  (gev (some (x27, true)) .id [x2]).bind fun x35 =>
                  (gev (some (x27, true)) .id [(e24.getD 0 .undef)]).bind fun x36 =>
                  (gev (some (x27, true)) .idx [x35, x36]).bind fun x37 =>
                  (gev (some (x27, true)) (.proj 0) [x37]).bind fun x38 =>
                  (gev (some (x27, true)) (.proj 1) [x37]).bind fun x39 =>
                  (gev (some (x27, true)) (.proj 2) [x37]).bind fun x40 =>
                  (gev (some (x27, true)) (.proj 3) [x37]).bind fun x41 =>
                  (gcall G (some (x27, true)) 196 [x31, x32, x33, x34, x38, x39, x40, x41] 1).bind fun e42 =>
                  (gev none .pick [x27, (e42.getD 0 .undef), (.bool false)]).bind fun x43 =>
                  tif x43 (
                    some (4, [(.bool false)])) (
                    (gev none (.iar .add .i64) [(e24.getD 0 .undef), (.int 1)]).bind fun x44 =>
                    some (0, [x44]))) (
                  some (1, [(e24.getD 0 .undef), x25]))
def S198L1 (G : Told) (fuel : Nat) (x2 : D) (x9 : D) (x18 : D) : List D → Option (Nat × List D) := fun e19 =>
        (gev none (.icm .lss) [(e19.getD 0 .undef), x18]).bind fun x20 =>
        tif x20 (
          (gev none .idx [x9, (e19.getD 0 .undef)]).bind fun x21 =>
          (gcall G none 19 [x21, (.int 0), (.int 200)] 1).bind fun e22 =>
          (gev none .bnot [(e22.getD 0 .undef)]).bind fun x23 =>
          tif x23 (
            some (2, [(.bool false)])) (
            tjoin 2 (
              iter (tbody 1 (S198L0 G x2 x9 e19 x21)) fuel [(.int 0)]) fun _e24 =>
            (gev none (.iar .add .i64) [(e19.getD 0 .undef), (.int 1)]).bind fun x26 =>
            some (0, [x26]))) (
          some (1, [(e19.getD 0 .undef), x20]))
def S198 (G : Told) (fuel : Nat) (x0 x1 x2 x3 x4 x5 x6 x7 x8 x9 : D) : Option (Nat × List D) :=
  (gcall G none 195 [x0, x1, x2, x3, x4, x5, x6, x7, x8] 1).bind fun e10 =>
  (gev none .bnot [(e10.getD 0 .undef)]).bind fun x11 =>
  (gev (some (x11, false)) .id [x9]).bind fun x12 =>
  (gev (some (x11, false)) .len [x12]).bind fun x13 =>
  (gev (some (x11, false)) .id [x2]).bind fun x14 =>
  (gev (some (x11, false)) .len [x14]).bind fun x15 =>
  (gev (some (x11, false)) (.icm .neq) [x13, x15]).bind fun x16 =>
  (gev none .pick [x11, (.bool true), x16]).bind fun x17 =>
  tif x17 (
    some (0, [(.bool false)])) (
    (gev none .len [x9]).bind fun x18 =>
    tjoin 2 (
      iter (tbody 1 (S198L1 G fuel x2 x9 x18)) fuel [(.int 0)]) fun _e19 =>
    some (0, [(.bool true)]))
theorem eq198 {G : Told} {fuel : Nat} (x0 x1 x2 x3 x4 x5 x6 x7 x8 x9 : D) : run G fuel T198 [x0, x1, x2, x3, x4, x5, x6, x7, x8, x9] = S198 G fuel x0 x1 x2 x3 x4 x5 x6 x7 x8 x9 := by
  rw [run_eq]; kernel_rfl

def T198s : T :=
(.call none 195 [(.v 0), (.v 1), (.v 2), (.v 3), (.v 4), (.v 5), (.v 6), (.v 7), (.v 8)] 1 <|
(.op (some ((.v 10), true)) .id [(.v 9)] <|
(.call (some ((.v 10), true)) 197 [(.v 0), (.v 1), (.v 2), (.v 3), (.v 4), (.v 5), (.v 6), (.v 7), (.v 8), (.v 11)] 1 <|
(.op none .pick [(.v 10), (.v 12), (.c (.bool false))] <|
(.out 0 [(.v 13)])))))
def S198s (G : Told) (_fuel : Nat) (x0 x1 x2 x3 x4 x5 x6 x7 x8 x9 : D) : Option (Nat × List D) :=
  (gcall G none 195 [x0, x1, x2, x3, x4, x5, x6, x7, x8] 1).bind fun e10 =>
  (gev (some ((e10.getD 0 .undef), true)) .id [x9]).bind fun x11 =>
  (gcall G (some ((e10.getD 0 .undef), true)) 197 [x0, x1, x2, x3, x4, x5, x6, x7, x8, x11] 1).bind fun e12 =>
  (gev none .pick [(e10.getD 0 .undef), (e12.getD 0 .undef), (.bool false)]).bind fun x13 =>
  some (0, [x13])
theorem eq198s {G : Told} {fuel : Nat} (x0 x1 x2 x3 x4 x5 x6 x7 x8 x9 : D) : run G fuel T198s [x0, x1, x2, x3, x4, x5, x6, x7, x8, x9] = S198s G fuel x0 x1 x2 x3 x4 x5 x6 x7 x8 x9 := by
  rw [run_eq]; kernel_rfl

def T199 : T :=
(.op none .len [(.v 9)] <|
(.op none (.icm .gtr) [(.v 10), (.c (.int 1048576))] <|
(.ite (.v 11)
  (.out 0 [(.c (.bool true))])
  (.call none 182 [(.v 0), (.v 1), (.v 2), (.v 3), (.v 4), (.v 5), (.v 6), (.v 7), (.v 8), (.c (.int 1048576))] 1 <|
  (.op none (.icm .lss) [(.v 12), (.c (.int 0))] <|
  (.ite (.v 13)
    (.out 0 [(.c (.bool true))])
    (.call none 186 [(.v 0), (.v 1), (.v 2), (.v 3), (.v 4), (.v 5), (.v 6), (.v 7), (.v 8)] 9 <|
    (.call none 143 [(.v 9)] 1 <|
    (.call none 198 [(.v 14), (.v 15), (.v 16), (.v 17), (.v 18), (.v 19), (.v 20), (.v 21), (.v 22), (.v 23)] 1 <|
    (.call none 186 [(.v 0), (.v 1), (.v 2), (.v 3), (.v 4), (.v 5), (.v 6), (.v 7), (.v 8)] 9 <|
    (.call none 143 [(.v 9)] 1 <|
    (.call none 198 [(.v 25), (.v 26), (.v 27), (.v 28), (.v 29), (.v 30), (.v 31), (.v 32), (.v 33), (.v 34)] 1 <|
    (.op none .bne [(.v 35), (.v 24)] <|
    (.ite (.v 36)
      (.out 0 [(.c (.bool false))])
      (.call none 186 [(.v 0), (.v 1), (.v 2), (.v 3), (.v 4), (.v 5), (.v 6), (.v 7), (.v 8)] 9 <|
      (.call none 190 [(.v 25), (.v 26), (.v 27), (.v 28), (.v 29), (.v 30), (.v 31), (.v 32), (.v 33), (.v 37), (.v 38), (.v 39), (.v 40), (.v 41), (.v 42), (.v 43), (.v 44), (.v 45)] 1 <|
      (.op none .bnot [(.v 46)] <|
      (.ite (.v 47)
        (.out 0 [(.c (.bool false))])
        (.call none 143 [(.v 9)] 1 <|
        (.call none 100 [(.v 34), (.v 48)] 1 <|
        (.op none .bnot [(.v 49)] <|
        (.ite (.v 50)
          (.out 0 [(.c (.bool false))])
          (.out 0 [(.c (.bool true))])))))))))))))))))))))))
def S199 (G : Told) (_fuel : Nat) (x0 x1 x2 x3 x4 x5 x6 x7 x8 x9 : D) : Option (Nat × List D) :=
  (gev none .len [x9]).bind fun x10 =>
  (gev none (.icm .gtr) [x10, (.int 1048576)]).bind fun x11 =>
  tif x11 (
    some (0, [(.bool true)])) (
    (gcall G none 182 [x0, x1, x2, x3, x4, x5, x6, x7, x8, (.int 1048576)] 1).bind fun e12 =>
    (gev none (.icm .lss) [(e12.getD 0 .undef), (.int 0)]).bind fun x13 =>
    tif x13 (
      some (0, [(.bool true)])) (
      (gcall G none 186 [x0, x1, x2, x3, x4, x5, x6, x7, x8] 9).bind fun e14 =>
      (gcall G none 143 [x9] 1).bind fun e23 =>
      (gcall G none 198 [(e14.getD 0 .undef), (e14.getD 1 .undef), (e14.getD 2 .undef), (e14.getD 3 .undef), (e14.getD 4 .undef), (e14.getD 5 .undef), (e14.getD 6 .undef), (e14.getD 7 .undef), (e14.getD 8 .undef), (e23.getD 0 .undef)] 1).bind fun e24 =>
      (gcall G none 186 [x0, x1, x2, x3, x4, x5, x6, x7, x8] 9).bind fun e25 =>
      (gcall G none 143 [x9] 1).bind fun e34 =>
      (gcall G none 198 [(e25.getD 0 .undef), (e25.getD 1 .undef), (e25.getD 2 .undef), (e25.getD 3 .undef), (e25.getD 4 .undef), (e25.getD 5 .undef), (e25.getD 6 .undef), (e25.getD 7 .undef), (e25.getD 8 .undef), (e34.getD 0 .undef)] 1).bind fun e35 =>
      (gev none .bne [(e35.getD 0 .undef), (e24.getD 0 .undef)]).bind fun x36 =>
      tif x36 (
        some (0, [(.bool false)])) (
        (gcall G none 186 [x0, x1, x2, x3, x4, x5, x6, x7, x8] 9).bind fun e37 =>
        (gcall G none 190 [(e25.getD 0 .undef), (e25.getD 1 .undef), (e25.getD 2 .undef), (e25.getD 3 .undef), (e25.getD 4 .undef), (e25.getD 5 .undef), (e25.getD 6 .undef), (e25.getD 7 .undef), (e25.getD 8 .undef), (e37.getD 0 .undef), (e37.getD 1 .undef), (e37.getD 2 .undef), (e37.getD 3 .undef), (e37.getD 4 .undef), (e37.getD 5 .undef), (e37.getD 6 .undef), (e37.getD 7 .undef), (e37.getD 8 .undef)] 1).bind fun e46 =>
        (gev none .bnot [(e46.getD 0 .undef)]).bind fun x47 =>
        tif x47 (
          some (0, [(.bool false)])) (
          (gcall G none 143 [x9] 1).bind fun e48 =>
          (gcall G none 100 [(e34.getD 0 .undef), (e48.getD 0 .undef)] 1).bind fun e49 =>
          (gev none .bnot [(e49.getD 0 .undef)]).bind fun x50 =>
          tif x50 (
            some (0, [(.bool false)])) (
            some (0, [(.bool true)]))))))
theorem eq199 {G : Told} {fuel : Nat} (x0 x1 x2 x3 x4 x5 x6 x7 x8 x9 : D) : run G fuel T199 [x0, x1, x2, x3, x4, x5, x6, x7, x8, x9] = S199 G fuel x0 x1 x2 x3 x4 x5 x6 x7 x8 x9 := by
  rw [run_eq]; kernel_rfl

def T200 : T :=
(.call none 195 [(.v 0), (.v 1), (.v 2), (.v 3), (.v 4), (.v 5), (.v 6), (.v 7), (.v 8)] 1 <|
(.op none .bnot [(.v 9)] <|
(.ite (.v 10)
  (.out 0 [(.c (.int 0)), (.c (.flt 0)), (.c (.bool false))])
  (.op none .len [(.v 2)] <|
  (.join 4
    (.loop [(.c (.int (-1))), (.c (.flt 0)), (.c (.int 0))]
      (.op none (.icm .lss) [(.v 14), (.v 11)] <|
      (.ite (.v 15)
        (.op none .idx [(.v 2), (.v 14)] <|
        (.op none (.proj 0) [(.v 16)] <|
        (.op none (.proj 1) [(.v 16)] <|
        (.op none (.proj 2) [(.v 16)] <|
        (.op none (.proj 3) [(.v 16)] <|
        (.call none 201 [(.v 0), (.v 1), (.v 2), (.v 3), (.v 4), (.v 5), (.v 6), (.v 7), (.v 8), (.v 17), (.v 18), (.v 19), (.v 20)] 3 <|
        (.call none 15 [(.v 21), (.v 22), (.v 23)] 1 <|
        (.op none (.far .sub .f32) [(.v 24), (.v 19)] <|
        (.op none (.fcm .lss .f32) [(.v 25), (.c (.flt 0))] <|
        (.join 1
          (.ite (.v 26)
            (.op none (.fneg .f32) [(.v 25)] <|
            (.out 0 [(.v 27)]))
            (.out 0 [(.v 25)]))
        (.op none (.fcm .eql .f32) [(.v 27), (.v 27)] <|
        (.op (some ((.v 28), true)) .id [(.v 12)] <|
        (.op (some ((.v 28), true)) (.icm .lss) [(.v 29), (.c (.int 0))] <|
        (.op (some ((.v 28), true)) .id [(.v 30)] <|
        (.op (some ((.v 31), false)) .id [(.v 27)] <|
        (.op (some ((.v 31), false)) .id [(.v 13)] <|
        (.op (some ((.v 31), false)) (.fcm .gtr .f32) [(.v 32), (.v 33)] <|
        (.op (some ((.v 28), true)) .pick [(.v 31), (.c (.bool true)), (.v 34)] <|
        (.op none .pick [(.v 28), (.v 35), (.c (.bool false))] <|
        (.join 2
          (.ite (.v 36)
            (.out 0 [(.v 14), (.v 27)])
            (.out 0 [(.v 12), (.v 13)]))
        (.op none (.iar .add .i64) [(.v 14), (.c (.int 1))] <|
        (.out 0 [(.v 37), (.v 38), (.v 39)]))))))))))))))))))))))
        (.out 1 [(.v 12), (.v 13), (.v 14), (.v 15)]))))
  (.op none (.icm .lss) [(.v 12), (.c (.int 0))] <|
  (.ite (.v 16)
    (.out 0 [(.c (.int 0)), (.c (.flt 0)), (.c (.bool false))])
    (.out 0 [(.v 12), (.v 13), (.c (.bool true))]))))))))
def S200L0 (G : Told) (x0 : D) (x1 : D) (x2 : D) (x3 : D) (x4 : D) (x5 : D) (x6 : D) (x7 : D) (x8 : D) (x11 : D) : List D → Option (Nat × List D) := fun e12 =>
        (gev none (.icm .lss) [(e12.getD 2 .undef), x11]).bind fun x15 =>
        tif x15 (
          (gev none .idx [x2, (e12.getD 2 .undef)]).bind fun x16 =>
          (gev none (.proj 0) [x16]).bind fun x17 =>
          (gev none (.proj 1) [x16]).bind fun x18 =>
          (gev none (.proj 2) [x16]).bind fun x19 =>
          (gev none (.proj 3) [x16]).bind fun x20 =>
          (gcall G none 201 [x0, x1, x2, x3, x4, x5, x6, x7, x8, x17, x18, x19, x20] 3).bind fun e21 =>
          (gcall G none 15 [(e21.getD 0 .undef), (e21.getD 1 .undef), (e21.getD 2 .undef)] 1).bind fun e24 =>
          (gev none (.far .sub .f32) [(e24.getD 0 .undef), x19]).bind fun x25 =>
          (gev none (.fcm .lss .f32) [x25, (.flt 0)]).bind fun x26 =>
          tjoin 1 (
            tif x26 (
              (gev none (.fneg .f32) [x25]).bind fun x27 =>
              some (0, [x27])) (
              some (0, [x25]))) fun e27 =>
          (gev none (.fcm .eql .f32) [(e27.getD 0 .undef), (e27.getD 0 .undef)]).bind fun x28 =>
          (gev (some (x28, true)) .id [(e12.getD 0 .undef)]).bind fun x29 =>
          (gev (some (x28, true)) (.icm .lss) [x29, (.int 0)]).bind fun x30 =>
          (gev (some (x28, true)) .id [x30]).bind fun x31 =>
          (gev (some (x31, false)) .id [(e27.getD 0 .undef)]).bind fun x32 =>
          (gev (some (x31, false)) .id [(e12.getD 1 .undef)]).bind fun x33 =>
          (gev (some (x31, false)) (.fcm .gtr .f32) [x32, x33]).bind fun x34 =>
          (gev (some (x28, true)) .pick [x31, (.bool true), x34]).bind fun x35 =>
          (gev none .pick [x28, x35, (.bool false)]).bind fun x36 =>
          tjoin 2 (
            tif x36 (
              some (0, [(e12.getD 2 .undef), (e27.getD 0 .undef)])) (
              some (0, [(e12.getD 0 .undef), (e12.getD 1 .undef)]))) fun e37 =>
          (gev none (.iar .add .i64) [(e12.getD 2 .undef), (.int 1)]).bind fun x39 =>
          some (0, [(e37.getD 0 .undef), (e37.getD 1 .undef), x39])) (
          some (1, [(e12.getD 0 .undef), (e12.getD 1 .undef), (e12.getD 2 .undef), x15]))
def S200 (G : Told) (fuel : Nat) (x0 x1 x2 x3 x4 x5 x6 x7 x8 : D) : Option (Nat × List D) :=
  (gcall G none 195 [x0, x1, x2, x3, x4, x5, x6, x7, x8] 1).bind fun e9 =>
  (gev none .bnot [(e9.getD 0 .undef)]).bind fun x10 =>
  tif x10 (
    some (0, [(.int 0), (.flt 0), (.bool false)])) (
    (gev none .len [x2]).bind fun x11 =>
    tjoin 4 (
      iter (tbody 3 (S200L0 G x0 x1 x2 x3 x4 x5 x6 x7 x8 x11)) fuel [(.int (-1)), (.flt 0), (.int 0)]) fun e12 =>
    (gev none (.icm .lss) [(e12.getD 0 .undef), (.int 0)]).bind fun x16 =>
    tif x16 (
      some (0, [(.int 0), (.flt 0), (.bool false)])) (
      some (0, [(e12.getD 0 .undef), (e12.getD 1 .undef), (.bool true)])))
theorem eq200 {G : Told} {fuel : Nat} (x0 x1 x2 x3 x4 x5 x6 x7 x8 : D) : run G fuel T200 [x0, x1, x2, x3, x4, x5, x6, x7, x8] = S200 G fuel x0 x1 x2 x3 x4 x5 x6 x7 x8 := by
  rw [run_eq]; kernel_rfl

def T200s : T :=
(.call none 195 [(.v 0), (.v 1), (.v 2), (.v 3), (.v 4), (.v 5), (.v 6), (.v 7), (.v 8)] 1 <|
(.op none .bnot [(.v 9)] <|
(.ite (.v 10)
  (.out 0 [(.c (.int 0)), (.c (.flt 0)), (.c (.bool false))])
  (.op none .len [(.v 2)] <|
  (.join 4
    (.loop [(.c (.int (-1))), (.c (.flt 0)), (.c (.int 0))]
      (.op none (.icm .lss) [(.v 14), (.v 11)] <|
      (.ite (.v 15)
        (.op none .idx [(.v 2), (.v 14)] <|
        (.op none (.proj 0) [(.v 16)] <|
        (.op none (.proj 1) [(.v 16)] <|
        (.op none (.proj 2) [(.v 16)] <|
        (.op none (.proj 3) [(.v 16)] <|
        (.op none .idx [(.v 0), (.v 18)] <|
        (.op none (.proj 0) [(.v 21)] <|
        (.op none (.proj 1) [(.v 21)] <|
        (.op none (.proj 2) [(.v 21)] <|
        (.op none .idx [(.v 0), (.v 17)] <|
        (.op none (.proj 0) [(.v 25)] <|
        (.op none (.proj 1) [(.v 25)] <|
        (.op none (.proj 2) [(.v 25)] <|
        (.call none 13 [(.v 22), (.v 23), (.v 24), (.v 26), (.v 27), (.v 28)] 3 <|
        (.call none 15 [(.v 29), (.v 30), (.v 31)] 1 <|
        (.op none (.far .sub .f32) [(.v 32), (.v 19)] <|
        (.op none (.fcm .lss .f32) [(.v 33), (.c (.flt 0))] <|
        (.join 1
          (.ite (.v 34)
            (.op none (.fneg .f32) [(.v 33)] <|
            (.out 0 [(.v 35)]))
            (.out 0 [(.v 33)]))
        (.op none (.fcm .eql .f32) [(.v 35), (.v 35)] <|
        (.op (some ((.v 36), true)) .id [(.v 12)] <|
        (.op (some ((.v 36), true)) (.icm .lss) [(.v 37), (.c (.int 0))] <|
        (.op (some ((.v 36), true)) .id [(.v 38)] <|
        (.op (some ((.v 39), false)) .id [(.v 35)] <|
        (.op (some ((.v 39), false)) .id [(.v 13)] <|
        (.op (some ((.v 39), false)) (.fcm .gtr .f32) [(.v 40), (.v 41)] <|
        (.op (some ((.v 36), true)) .pick [(.v 39), (.c (.bool true)), (.v 42)] <|
        (.op none .pick [(.v 36), (.v 43), (.c (.bool false))] <|
        (.join 2
          (.ite (.v 44)
            (.out 0 [(.v 14), (.v 35)])
            (.out 0 [(.v 12), (.v 13)]))
        (.op none (.iar .add .i64) [(.v 14), (.c (.int 1))] <|
        (.out 0 [(.v 45), (.v 46), (.v 47)]))))))))))))))))))))))))))))))
        (.out 1 [(.v 12), (.v 13), (.v 14), (.v 15)]))))
  (.op none (.icm .lss) [(.v 12), (.c (.int 0))] <|
  (.ite (.v 16)
    (.out 0 [(.c (.int 0)), (.c (.flt 0)), (.c (.bool false))])
    (.out 0 [(.v 12), (.v 13), (.c (.bool true))]))))))))
def S200sL0 (G : Told) (x0 : D) (x2 : D) (x11 : D) : List D → Option (Nat × List D) := fun e12 =>
        (gev none (.icm .lss) [(e12.getD 2 .undef), x11]).bind fun x15 =>
        tif x15 (
          (gev none .idx [x2, (e12.getD 2 .undef)]).bind fun x16 =>
          (gev none (.proj 0) [x16]).bind fun x17 =>
          (gev none (.proj 1) [x16]).bind fun x18 =>
          (gev none (.proj 2) [x16]).bind fun x19 =>
          (gev none (.proj 3) [x16]).bind fun _x20 =>
          (gev none .idx [x0, x18]).bind fun x21 =>
          (gev none (.proj 0) [x21]).bind fun x22 =>
          (gev none (.proj 1) [x21]).bind fun x23 =>
          (gev none (.proj 2) [x21]).bind fun x24 =>
          (gev none .idx [x0, x17]).bind fun x25 =>
          (gev none (.proj 0) [x25]).bind fun x26 =>
          (gev none (.proj 1) [x25]).bind fun x27 =>
          (gev none (.proj 2) [x25]).bind fun x28 =>
          (gcall G none 13 [x22, x23, x24, x26, x27, x28] 3).bind fun e29 =>
          (gcall G none 15 [(e29.getD 0 .undef), (e29.getD 1 .undef), (e29.getD 2 .undef)] 1).bind fun e32 =>
          (gev none (.far .sub .f32) [(e32.getD 0 .undef), x19]).bind fun x33 =>
          (gev none (.fcm .lss .f32) [x33, (.flt 0)]).bind fun x34 =>
          tjoin 1 (
            tif x34 (
              (gev none (.fneg .f32) [x33]).bind fun x35 =>
              some (0, [x35])) (
              some (0, [x33]))) fun e35 =>
          (gev none (.fcm .eql .f32) [(e35.getD 0 .undef), (e35.getD 0 .undef)]).bind fun x36 =>
          (gev (some (x36, true)) .id [(e12.getD 0 .undef)]).bind fun x37 =>
          (gev (some (x36, true)) (.icm .lss) [x37, (.int 0)]).bind fun x38 =>
          (gev (some (x36, true)) .id [x38]).bind fun x39 =>
          (gev (some (x39, false)) .id [(e35.getD 0 .undef)]).bind fun x40 =>
          (gev (some (x39, false)) .id [(e12.getD 1 .undef)]).bind fun x41 =>
          (gev (some (x39, false)) (.fcm .gtr .f32) [x40, x41]).bind fun x42 =>
          (gev (some (x36, true)) .pick [x39, (.bool true), x42]).bind fun x43 =>
          (gev none .pick [x36, x43, (.bool false)]).bind fun x44 =>
          tjoin 2 (
            tif x44 (
              some (0, [(e12.getD 2 .undef), (e35.getD 0 .undef)])) (
              some (0, [(e12.getD 0 .undef), (e12.getD 1 .undef)]))) fun e45 =>
          (gev none (.iar .add .i64) [(e12.getD 2 .undef), (.int 1)]).bind fun x47 =>
          some (0, [(e45.getD 0 .undef), (e45.getD 1 .undef), x47])) (
          some (1, [(e12.getD 0 .undef), (e12.getD 1 .undef), (e12.getD 2 .undef), x15]))
def S200s (G : Told) (fuel : Nat) (x0 x1 x2 x3 x4 x5 x6 x7 x8 : D) : Option (Nat × List D) :=
  (gcall G none 195 [x0, x1, x2, x3, x4, x5, x6, x7, x8] 1).bind fun e9 =>
  (gev none .bnot [(e9.getD 0 .undef)]).bind fun x10 =>
  tif x10 (
    some (0, [(.int 0), (.flt 0), (.bool false)])) (
    (gev none .len [x2]).bind fun x11 =>
    tjoin 4 (
      iter (tbody 3 (S200sL0 G x0 x2 x11)) fuel [(.int (-1)), (.flt 0), (.int 0)]) fun e12 =>
    (gev none (.icm .lss) [(e12.getD 0 .undef), (.int 0)]).bind fun x16 =>
    tif x16 (
      some (0, [(.int 0), (.flt 0), (.bool false)])) (
      some (0, [(e12.getD 0 .undef), (e12.getD 1 .undef), (.bool true)])))
theorem eq200s {G : Told} {fuel : Nat} (x0 x1 x2 x3 x4 x5 x6 x7 x8 : D) : run G fuel T200s [x0, x1, x2, x3, x4, x5, x6, x7, x8] = S200s G fuel x0 x1 x2 x3 x4 x5 x6 x7 x8 := by
  rw [run_eq]; kernel_rfl

def T201 : T :=
(.op none .idx [(.v 0), (.v 10)] <|
(.op none (.proj 0) [(.v 13)] <|
(.op none (.proj 1) [(.v 13)] <|
(.op none (.proj 2) [(.v 13)] <|
(.op none .idx [(.v 0), (.v 9)] <|
(.op none (.proj 0) [(.v 17)] <|
(.op none (.proj 1) [(.v 17)] <|
(.op none (.proj 2) [(.v 17)] <|
(.call none 13 [(.v 14), (.v 15), (.v 16), (.v 18), (.v 19), (.v 20)] 3 <|
(.out 0 [(.v 21), (.v 22), (.v 23)]))))))))))
def S201 (G : Told) (_fuel : Nat) (x0 _x1 _x2 _x3 _x4 _x5 _x6 _x7 _x8 x9 x10 _x11 _x12 : D) : Option (Nat × List D) :=
  (gev none .idx [x0, x10]).bind fun x13 =>
  (gev none (.proj 0) [x13]).bind fun x14 =>
  (gev none (.proj 1) [x13]).bind fun x15 =>
  (gev none (.proj 2) [x13]).bind fun x16 =>
  (gev none .idx [x0, x9]).bind fun x17 =>
  (gev none (.proj 0) [x17]).bind fun x18 =>
  (gev none (.proj 1) [x17]).bind fun x19 =>
  (gev none (.proj 2) [x17]).bind fun x20 =>
  (gcall G none 13 [x14, x15, x16, x18, x19, x20] 3).bind fun e21 =>
  some (0, [(e21.getD 0 .undef), (e21.getD 1 .undef), (e21.getD 2 .undef)])
theorem eq201 {G : Told} {fuel : Nat} (x0 x1 x2 x3 x4 x5 x6 x7 x8 x9 x10 x11 x12 : D) : run G fuel T201 [x0, x1, x2, x3, x4, x5, x6, x7, x8, x9, x10, x11, x12] = S201 G fuel x0 x1 x2 x3 x4 x5 x6 x7 x8 x9 x10 x11 x12 := by
  rw [run_eq]; kernel_rfl

def T202 : T :=
(.call none 182 [(.v 0), (.v 1), (.v 2), (.v 3), (.v 4), (.v 5), (.v 6), (.v 7), (.v 8), (.c (.int 1048576))] 1 <|
(.op none (.icm .lss) [(.v 9), (.c (.int 0))] <|
(.ite (.v 10)
  (.out 0 [(.c (.bool true))])
  (.call none 186 [(.v 0), (.v 1), (.v 2), (.v 3), (.v 4), (.v 5), (.v 6), (.v 7), (.v 8)] 9 <|
  (.call none 200 [(.v 11), (.v 12), (.v 13), (.v 14), (.v 15), (.v 16), (.v 17), (.v 18), (.v 19)] 3 <|
  (.call none 186 [(.v 0), (.v 1), (.v 2), (.v 3), (.v 4), (.v 5), (.v 6), (.v 7), (.v 8)] 9 <|
  (.call none 200 [(.v 23), (.v 24), (.v 25), (.v 26), (.v 27), (.v 28), (.v 29), (.v 30), (.v 31)] 3 <|
  (.op none (.icm .neq) [(.v 32), (.v 20)] <|
  (.op (some ((.v 35), false)) .id [(.v 33)] <|
  (.op (some ((.v 35), false)) (.f2f .f32 .f64) [(.v 36)] <|
  (.op (some ((.v 35), false)) .id [(.v 21)] <|
  (.op (some ((.v 35), false)) (.f2f .f32 .f64) [(.v 38)] <|
  (.call (some ((.v 35), false)) 4 [(.v 37), (.v 39)] 1 <|
  (.op (some ((.v 35), false)) .bnot [(.v 40)] <|
  (.op none .pick [(.v 35), (.c (.bool true)), (.v 41)] <|
  (.op (some ((.v 42), false)) .id [(.v 34)] <|
  (.op (some ((.v 42), false)) .id [(.v 22)] <|
  (.op (some ((.v 42), false)) .bne [(.v 43), (.v 44)] <|
  (.op none .pick [(.v 42), (.c (.bool true)), (.v 45)] <|
  (.ite (.v 46)
    (.out 0 [(.c (.bool false))])
    (.call none 186 [(.v 0), (.v 1), (.v 2), (.v 3), (.v 4), (.v 5), (.v 6), (.v 7), (.v 8)] 9 <|
    (.call none 190 [(.v 23), (.v 24), (.v 25), (.v 26), (.v 27), (.v 28), (.v 29), (.v 30), (.v 31), (.v 47), (.v 48), (.v 49), (.v 50), (.v 51), (.v 52), (.v 53), (.v 54), (.v 55)] 1 <|
    (.op none .bnot [(.v 56)] <|
    (.ite (.v 57)
      (.out 0 [(.c (.bool false))])
      (.out 0 [(.c (.bool true))])))))))))))))))))))))))))
def S202 (G : Told) (_fuel : Nat) (x0 x1 x2 x3 x4 x5 x6 x7 x8 : D) : Option (Nat × List D) :=
  (gcall G none 182 [x0, x1, x2, x3, x4, x5, x6, x7, x8, (.int 1048576)] 1).bind fun e9 =>
  (gev none (.icm .lss) [(e9.getD 0 .undef), (.int 0)]).bind fun x10 =>
  tif x10 (
    some (0, [(.bool true)])) (
    (gcall G none 186 [x0, x1, x2, x3, x4, x5, x6, x7, x8] 9).bind fun e11 =>
    (gcall G none 200 [(e11.getD 0 .undef), (e11.getD 1 .undef), (e11.getD 2 .undef), (e11.getD 3 .undef), (e11.getD 4 .undef), (e11.getD 5 .undef), (e11.getD 6 .undef), (e11.getD 7 .undef), (e11.getD 8 .undef)] 3).bind fun e20 =>
    (gcall G none 186 [x0, x1, x2, x3, x4, x5, x6, x7, x8] 9).bind fun e23 =>
    (gcall G none 200 [(e23.getD 0 .undef), (e23.getD 1 .undef), (e23.getD 2 .undef), (e23.getD 3 .undef), (e23.getD 4 .undef), (e23.getD 5 .undef), (e23.getD 6 .undef), (e23.getD 7 .undef), (e23.getD 8 .undef)] 3).bind fun e32 =>
    (gev none (.icm .neq) [(e32.getD 0 .undef), (e20.getD 0 .undef)]).bind fun x35 =>
    (gev (some (x35, false)) .id [(e32.getD 1 .undef)]).bind fun x36 =>
    (gev (some (x35, false)) (.f2f .f32 .f64) [x36]).bind fun x37 =>
    (gev (some (x35, false)) .id [(e20.getD 1 .undef)]).bind fun x38 =>
    (gev (some (x35, false)) (.f2f .f32 .f64) [x38]).bind fun x39 =>
    (gcall G (some (x35, false)) 4 [x37, x39] 1).bind fun e40 =>
    (gev (some (x35, false)) .bnot [(e40.getD 0 .undef)]).bind fun x41 =>
    (gev none .pick [x35, (.bool true), x41]).bind fun x42 =>
    (gev (some (x42, false)) .id [(e32.getD 2 .undef)]).bind fun x43 =>
    (gev (some (x42, false)) .id [(e20.getD 2 .undef)]).bind fun x44 =>
    (gev (some (x42, false)) .bne [x43, x44]).bind fun x45 =>
    (gev none .pick [x42, (.bool true), x45]).bind fun x46 =>
    tif x46 (
      some (0, [(.bool false)])) (
      (gcall G none 186 [x0, x1, x2, x3, x4, x5, x6, x7, x8] 9).bind fun e47 =>
      (gcall G none 190 [(e23.getD 0 .undef), (e23.getD 1 .undef), (e23.getD 2 .undef), (e23.getD 3 .undef), (e23.getD 4 .undef), (e23.getD 5 .undef), (e23.getD 6 .undef), (e23.getD 7 .undef), (e23.getD 8 .undef), (e47.getD 0 .undef), (e47.getD 1 .undef), (e47.getD 2 .undef), (e47.getD 3 .undef), (e47.getD 4 .undef), (e47.getD 5 .undef), (e47.getD 6 .undef), (e47.getD 7 .undef), (e47.getD 8 .undef)] 1).bind fun e56 =>
      (gev none .bnot [(e56.getD 0 .undef)]).bind fun x57 =>
      tif x57 (
        some (0, [(.bool false)])) (
        some (0, [(.bool true)]))))
theorem eq202 {G : Told} {fuel : Nat} (x0 x1 x2 x3 x4 x5 x6 x7 x8 : D) : run G fuel T202 [x0, x1, x2, x3, x4, x5, x6, x7, x8] = S202 G fuel x0 x1 x2 x3 x4 x5 x6 x7 x8 := by
  rw [run_eq]; kernel_rfl

attribute [local irreducible] tif tjoin IntKind.wrap feq fadd fmul fsub fdiv fgt fge flt fneg i2f sameP wide eqV vl il tl sl fl totL meetS rangeP wsE longV validB szM szP marksV marksT inr triP validP innerP longP rootP
set_option maxHeartbeats 4000000 in
theorem run196 {G : Told} : ∀ ds rs, F196 ds = some rs → ∃ fuel, run G fuel T196 ds = some (0, rs) := by
  intro ds rs h
  unfold F196 at h
  split at h <;> simp only [Option.some.injEq, reduceCtorEq] at h
  subst h
  rename_i a b l k a2 b2 l2 k2
  refine ⟨0, ?_⟩
  rw [eq196]
  unfold S196 meetS
  cases h1 : a == a2
  case true =>
    repeat' first
      | with_reducible refine st_ift ?_
      | with_reducible refine st_iff ?_
      | ((with_reducible apply st_callt); assumption; exact rfl; exact rfl; assumption)
      | ((with_reducible apply st_callf); assumption; exact rfl; exact rfl; assumption)
      | ((with_reducible apply st_call); assumption; exact rfl; exact rfl; exact rfl)
      | ((with_reducible apply st_wide); exact rfl; exact rfl)
      | ((with_reducible apply st_skip); exact rfl)
      | ((with_reducible apply st_t); exact rfl; exact rfl)
      | ((with_reducible apply st_f); exact rfl; exact rfl)
      | ((with_reducible apply st_t); exact rfl; assumption)
      | ((with_reducible apply st_f); exact rfl; assumption)
      | ((with_reducible apply st_some); exact rfl)
      | exact rfl
  cases h2 : a == b2
  case true =>
    repeat' first
      | with_reducible refine st_ift ?_
      | with_reducible refine st_iff ?_
      | ((with_reducible apply st_callt); assumption; exact rfl; exact rfl; assumption)
      | ((with_reducible apply st_callf); assumption; exact rfl; exact rfl; assumption)
      | ((with_reducible apply st_call); assumption; exact rfl; exact rfl; exact rfl)
      | ((with_reducible apply st_wide); exact rfl; exact rfl)
      | ((with_reducible apply st_skip); exact rfl)
      | ((with_reducible apply st_t); exact rfl; exact rfl)
      | ((with_reducible apply st_f); exact rfl; exact rfl)
      | ((with_reducible apply st_t); exact rfl; assumption)
      | ((with_reducible apply st_f); exact rfl; assumption)
      | ((with_reducible apply st_some); exact rfl)
      | exact rfl
  cases h3 : b == a2
  case true =>
    repeat' first
      | with_reducible refine st_ift ?_
      | with_reducible refine st_iff ?_
      | ((with_reducible apply st_callt); assumption; exact rfl; exact rfl; assumption)
      | ((with_reducible apply st_callf); assumption; exact rfl; exact rfl; assumption)
      | ((with_reducible apply st_call); assumption; exact rfl; exact rfl; exact rfl)
      | ((with_reducible apply st_wide); exact rfl; exact rfl)
      | ((with_reducible apply st_skip); exact rfl)
      | ((with_reducible apply st_t); exact rfl; exact rfl)
      | ((with_reducible apply st_f); exact rfl; exact rfl)
      | ((with_reducible apply st_t); exact rfl; assumption)
      | ((with_reducible apply st_f); exact rfl; assumption)
      | ((with_reducible apply st_some); exact rfl)
      | exact rfl
  repeat' first
    | with_reducible refine st_ift ?_
    | with_reducible refine st_iff ?_
    | ((with_reducible apply st_callt); assumption; exact rfl; exact rfl; assumption)
    | ((with_reducible apply st_callf); assumption; exact rfl; exact rfl; assumption)
    | ((with_reducible apply st_call); assumption; exact rfl; exact rfl; exact rfl)
    | ((with_reducible apply st_wide); exact rfl; exact rfl)
    | ((with_reducible apply st_skip); exact rfl)
    | ((with_reducible apply st_t); exact rfl; exact rfl)
    | ((with_reducible apply st_f); exact rfl; exact rfl)
    | ((with_reducible apply st_t); exact rfl; assumption)
    | ((with_reducible apply st_f); exact rfl; assumption)
    | ((with_reducible apply st_some); exact rfl)
    | exact rfl
set_option maxHeartbeats 4000000 in
theorem run197 {G : Told} (g19 : G 19 = F19) (g196 : G 196 = F196) : ∀ ds rs, F197 ds = some rs → ∃ fuel, run G fuel T197 ds = some (0, rs) := by
  intro ds rs h
  unfold F197 at h
  obtain ⟨⟨B, r⟩, hb, h⟩ := Option.bind_eq_some_iff.1 h
  rw [dB_inv hb]
  dsimp only at h
  split at h
  case isFalse => cases h
  rename_i hc
  simp only [Option.some.injEq] at h
  subst h
  have hs := hc.choose_spec
  generalize hc.choose = cs at *
  clear hc
  obtain ⟨hr, hc, hcl⟩ := hs
  subst hr
  obtain ⟨vs, ts, ss, fm, bn, ws, x, y, z⟩ := B
  simp only [bd, List.cons_append, List.nil_append]
  have hz : szM vs ts + ss.length + ws.length ≤ 1048576 := hc
  have hfu : ∃ fuel, fuel = cs.length + 4 := ⟨_, rfl⟩
  obtain ⟨fuel, hfu⟩ := hfu
  refine ⟨fuel, ?_⟩
  rw [eq197]
  unfold S197
  have hnc := len_il (l := cs)
  have hns := len_sl (l := ss)
  by_cases hl : cs.length = ss.length
  case neg =>
    have hd : ((cs.length : Int) != (ss.length : Int)) = true := by simp; omega
    have e : areQ ss cs = false := by
      unfold areQ
      rw [decide_eq_false hl, Bool.false_and]
    rw [e]
    repeat' first
      | with_reducible refine st_ift ?_
      | with_reducible refine st_iff ?_
      | ((with_reducible apply st_some); exact hnc)
      | ((with_reducible apply st_some); exact hns)
      | ((with_reducible apply st_callt); assumption; exact rfl; exact rfl; assumption)
      | ((with_reducible apply st_callf); assumption; exact rfl; exact rfl; assumption)
      | ((with_reducible apply st_call); assumption; exact rfl; exact rfl; exact rfl)
      | ((with_reducible apply st_wide); exact rfl; exact rfl)
      | ((with_reducible apply st_skip); exact rfl)
      | ((with_reducible apply st_t); exact rfl; exact rfl)
      | ((with_reducible apply st_f); exact rfl; exact rfl)
      | ((with_reducible apply st_t); exact rfl; assumption)
      | ((with_reducible apply st_f); exact rfl; assumption)
      | ((with_reducible apply st_some); exact rfl)
      | exact rfl
  have hd : ((cs.length : Int) != (ss.length : Int)) = false := by simp; omega
  have hgo : ∀ i, (hi : i < cs.length) → tbody 1 (S197L1 G fuel (sl ss) (il cs) (.int (cs.length : Int))) [.int (i : Int)] = if goodC ss cs i = true then some (0, [.int ((i + 1 : Nat) : Int)]) else some (2, [.bool false]) := by
      intro i hi
      refine tb rfl ?_
      have h0 : decide ((i : Int) < (cs.length : Int)) = true := by simpa using hi
      have hx := idx_il hi
      have hy := idx_sl (l := ss) (i := i) (by omega)
      have ha := add1n (i := i) (by omega)
      have fr := F19_range cs[i]
      have hin : ∀ k : Nat, k < i → tbody 1 (S197L0 G (sl ss) (il cs) [.int (i : Int)]) [.int (k : Int)] = if clash ss cs i k = true then some (4, [.bool false]) else some (0, [.int ((k + 1 : Nat) : Int)]) := by
        intro k hk
        refine tb rfl ?_
        have h0 : decide ((k : Int) < (i : Int)) = true := by simpa using hk
        have hk' : k < cs.length := by omega
        have xk := idx_il (l := cs) (i := k) hk'
        have yk := idx_sl (l := ss) (i := k) (by omega)
        have ak := add1n (i := k) (by omega)
        have hf := F196_m (ss[i]'(by omega)) (ss[k]'(by omega))
        have hcl : clash ss cs i k = ((cs[k] == cs[i]) && meetS (ss[i]'(by omega)) (ss[k]'(by omega))) := by
          unfold clash
          rw [getD_lt hk', getD_lt hi, getD_lt (by omega : i < ss.length), getD_lt (by omega : k < ss.length)]
        rw [hcl]
        unfold S197L0
        cases he : cs[k] == cs[i]
        · rw [Bool.false_and, if_neg (by simp)]
          repeat' first
            | with_reducible refine st_ift ?_
            | with_reducible refine st_iff ?_
            | ((with_reducible apply st_some); exact hx)
            | ((with_reducible apply st_some); exact xk)
            | ((with_reducible apply st_some); exact hy)
            | ((with_reducible apply st_some); exact yk)
            | ((with_reducible apply st_some); exact ak)
            | ((with_reducible apply st_callt); assumption; exact rfl; exact rfl; assumption)
            | ((with_reducible apply st_callf); assumption; exact rfl; exact rfl; assumption)
            | ((with_reducible apply st_call); assumption; exact rfl; exact rfl; exact rfl)
            | ((with_reducible apply st_wide); exact rfl; exact rfl)
            | ((with_reducible apply st_skip); exact rfl)
            | ((with_reducible apply st_t); exact rfl; exact rfl)
            | ((with_reducible apply st_f); exact rfl; exact rfl)
            | ((with_reducible apply st_t); exact rfl; assumption)
            | ((with_reducible apply st_f); exact rfl; assumption)
            | ((with_reducible apply st_some); exact rfl)
            | exact rfl
        · rw [Bool.true_and]
          cases hm : meetS (ss[i]'(by omega)) (ss[k]'(by omega))
          · rw [hm] at hf
            rw [if_neg (by simp)]
            repeat' first
              | with_reducible refine st_ift ?_
              | with_reducible refine st_iff ?_
              | ((with_reducible apply st_call); exact g196; exact rfl; exact hf; exact rfl)
              | ((with_reducible apply st_some); exact hx)
              | ((with_reducible apply st_some); exact xk)
              | ((with_reducible apply st_some); exact hy)
              | ((with_reducible apply st_some); exact yk)
              | ((with_reducible apply st_some); exact ak)
              | ((with_reducible apply st_callt); assumption; exact rfl; exact rfl; assumption)
              | ((with_reducible apply st_callf); assumption; exact rfl; exact rfl; assumption)
              | ((with_reducible apply st_call); assumption; exact rfl; exact rfl; exact rfl)
              | ((with_reducible apply st_wide); exact rfl; exact rfl)
              | ((with_reducible apply st_skip); exact rfl)
              | ((with_reducible apply st_t); exact rfl; exact rfl)
              | ((with_reducible apply st_f); exact rfl; exact rfl)
              | ((with_reducible apply st_t); exact rfl; assumption)
              | ((with_reducible apply st_f); exact rfl; assumption)
              | ((with_reducible apply st_some); exact rfl)
              | exact rfl
          · rw [hm] at hf
            rw [if_pos rfl]
            repeat' first
              | with_reducible refine st_ift ?_
              | with_reducible refine st_iff ?_
              | ((with_reducible apply st_call); exact g196; exact rfl; exact hf; exact rfl)
              | ((with_reducible apply st_some); exact hx)
              | ((with_reducible apply st_some); exact xk)
              | ((with_reducible apply st_some); exact hy)
              | ((with_reducible apply st_some); exact yk)
              | ((with_reducible apply st_some); exact ak)
              | ((with_reducible apply st_callt); assumption; exact rfl; exact rfl; assumption)
              | ((with_reducible apply st_callf); assumption; exact rfl; exact rfl; assumption)
              | ((with_reducible apply st_call); assumption; exact rfl; exact rfl; exact rfl)
              | ((with_reducible apply st_wide); exact rfl; exact rfl)
              | ((with_reducible apply st_skip); exact rfl)
              | ((with_reducible apply st_t); exact rfl; exact rfl)
              | ((with_reducible apply st_f); exact rfl; exact rfl)
              | ((with_reducible apply st_t); exact rfl; assumption)
              | ((with_reducible apply st_f); exact rfl; assumption)
              | ((with_reducible apply st_some); exact rfl)
              | exact rfl
      have hg : goodC ss cs i = (rangeP cs[i] && (List.range i).all fun k => !clash ss cs i k) := by
        unfold goodC
        rw [getD_lt hi]
      rw [hg]
      unfold S197L1
      cases hr : rangeP cs[i]
      · rw [hr] at fr
        rw [Bool.false_and, if_neg (by simp)]
        repeat' first
          | with_reducible refine st_ift ?_
          | with_reducible refine st_iff ?_
          | ((with_reducible apply st_call); exact g19; exact rfl; exact fr; exact rfl)
          | ((with_reducible apply st_some); exact hx)
          | ((with_reducible apply st_some); exact hy)
          | ((with_reducible apply st_some); exact ha)
          | ((with_reducible apply st_callt); assumption; exact rfl; exact rfl; assumption)
          | ((with_reducible apply st_callf); assumption; exact rfl; exact rfl; assumption)
          | ((with_reducible apply st_call); assumption; exact rfl; exact rfl; exact rfl)
          | ((with_reducible apply st_wide); exact rfl; exact rfl)
          | ((with_reducible apply st_skip); exact rfl)
          | ((with_reducible apply st_t); exact rfl; exact rfl)
          | ((with_reducible apply st_f); exact rfl; exact rfl)
          | ((with_reducible apply st_t); exact rfl; assumption)
          | ((with_reducible apply st_f); exact rfl; assumption)
          | ((with_reducible apply st_some); exact rfl)
          | exact rfl
      · rw [hr] at fr
        rw [Bool.true_and]
        cases hall : (List.range i).all fun k => !clash ss cs i k
        · rw [if_neg (by simp)]
          rw [List.all_eq_false] at hall
          obtain ⟨k, hk, hc⟩ := hall
          have hk := List.mem_range.1 hk
          have hloop : iter (tbody 1 (S197L0 G (sl ss) (il cs) [.int (i : Int)])) fuel [.int 0] = some (3, [.bool false]) := by
            refine iter_bad (body := tbody 1 (S197L0 G (sl ss) (il cs) [.int (i : Int)])) (n := i) (l := 3) (fun k => [.int (k : Int)]) (fun k => clash ss cs i k = false) (by omega) (fun k hk hg => ?_) (fun k hk hg => ?_) ⟨k, hk, by simpa using hc⟩
            · rw [hin k hk, if_neg (by rw [hg]; simp)]
            · rw [hin k hk, if_pos (by simpa using hg)]
          repeat' first
            | with_reducible refine st_ift ?_
            | with_reducible refine st_iff ?_
            | ((with_reducible apply st_out); exact hloop)
            | ((with_reducible apply st_call); exact g19; exact rfl; exact fr; exact rfl)
            | ((with_reducible apply st_some); exact hx)
            | ((with_reducible apply st_some); exact hy)
            | ((with_reducible apply st_some); exact ha)
            | ((with_reducible apply st_callt); assumption; exact rfl; exact rfl; assumption)
            | ((with_reducible apply st_callf); assumption; exact rfl; exact rfl; assumption)
            | ((with_reducible apply st_call); assumption; exact rfl; exact rfl; exact rfl)
            | ((with_reducible apply st_wide); exact rfl; exact rfl)
            | ((with_reducible apply st_skip); exact rfl)
            | ((with_reducible apply st_t); exact rfl; exact rfl)
            | ((with_reducible apply st_f); exact rfl; exact rfl)
            | ((with_reducible apply st_t); exact rfl; assumption)
            | ((with_reducible apply st_f); exact rfl; assumption)
            | ((with_reducible apply st_some); exact rfl)
            | exact rfl
        · rw [if_pos rfl]
          have hloop : iter (tbody 1 (S197L0 G (sl ss) (il cs) [.int (i : Int)])) fuel [.int 0] = some (0, [.int (i : Int), .int (i : Int), .bool false]) := by
            refine iter_to (body := tbody 1 (S197L0 G (sl ss) (il cs) [.int (i : Int)])) (n := i) (l := 0) (fun k => [.int (k : Int)]) (by omega) (fun k hk => ?_) ?_
            · have := List.all_eq_true.1 hall k (List.mem_range.2 hk)
              rw [hin k hk, if_neg (by simpa using this)]
            · refine tb rfl ?_
              have h0 : decide ((i : Int) < (i : Int)) = false := by simp
              unfold S197L0
              repeat' first
                | with_reducible refine st_ift ?_
                | with_reducible refine st_iff ?_
                | ((with_reducible apply st_callt); assumption; exact rfl; exact rfl; assumption)
                | ((with_reducible apply st_callf); assumption; exact rfl; exact rfl; assumption)
                | ((with_reducible apply st_call); assumption; exact rfl; exact rfl; exact rfl)
                | ((with_reducible apply st_wide); exact rfl; exact rfl)
                | ((with_reducible apply st_skip); exact rfl)
                | ((with_reducible apply st_t); exact rfl; exact rfl)
                | ((with_reducible apply st_f); exact rfl; exact rfl)
                | ((with_reducible apply st_t); exact rfl; assumption)
                | ((with_reducible apply st_f); exact rfl; assumption)
                | ((with_reducible apply st_some); exact rfl)
                | exact rfl
          repeat' first
            | with_reducible refine st_ift ?_
            | with_reducible refine st_iff ?_
            | ((with_reducible apply st_join); exact hloop; exact rfl)
            | ((with_reducible apply st_call); exact g19; exact rfl; exact fr; exact rfl)
            | ((with_reducible apply st_some); exact hx)
            | ((with_reducible apply st_some); exact hy)
            | ((with_reducible apply st_some); exact ha)
            | ((with_reducible apply st_callt); assumption; exact rfl; exact rfl; assumption)
            | ((with_reducible apply st_callf); assumption; exact rfl; exact rfl; assumption)
            | ((with_reducible apply st_call); assumption; exact rfl; exact rfl; exact rfl)
            | ((with_reducible apply st_wide); exact rfl; exact rfl)
            | ((with_reducible apply st_skip); exact rfl)
            | ((with_reducible apply st_t); exact rfl; exact rfl)
            | ((with_reducible apply st_f); exact rfl; exact rfl)
            | ((with_reducible apply st_t); exact rfl; assumption)
            | ((with_reducible apply st_f); exact rfl; assumption)
            | ((with_reducible apply st_some); exact rfl)
            | exact rfl
  have hq : areQ ss cs = (List.range cs.length).all (goodC ss cs) := by
    unfold areQ
    rw [decide_eq_true hl, Bool.true_and]
  rw [hq]
  cases hall : (List.range cs.length).all (goodC ss cs)
  case false =>
    rw [List.all_eq_false] at hall
    obtain ⟨k, hk, hc⟩ := hall
    have hk := List.mem_range.1 hk
    have hloop : iter (tbody 1 (S197L1 G fuel (sl ss) (il cs) (.int (cs.length : Int)))) fuel [.int 0] = some (1, [.bool false]) := by
      refine iter_bad (body := tbody 1 (S197L1 G fuel (sl ss) (il cs) (.int (cs.length : Int)))) (n := cs.length) (l := 1) (fun k => [.int (k : Int)]) (fun k => goodC ss cs k = true) (by omega) (fun k hk hg => ?_) (fun k hk hg => ?_) ⟨k, hk, by simpa using hc⟩
      · rw [hgo k hk, if_pos hg]
      · rw [hgo k hk, if_neg hg]
    repeat' first
      | with_reducible refine st_ift ?_
      | with_reducible refine st_iff ?_
      | ((with_reducible apply st_out); exact hloop)
      | ((with_reducible apply st_some); exact hnc)
      | ((with_reducible apply st_some); exact hns)
      | ((with_reducible apply st_callt); assumption; exact rfl; exact rfl; assumption)
      | ((with_reducible apply st_callf); assumption; exact rfl; exact rfl; assumption)
      | ((with_reducible apply st_call); assumption; exact rfl; exact rfl; exact rfl)
      | ((with_reducible apply st_wide); exact rfl; exact rfl)
      | ((with_reducible apply st_skip); exact rfl)
      | ((with_reducible apply st_t); exact rfl; exact rfl)
      | ((with_reducible apply st_f); exact rfl; exact rfl)
      | ((with_reducible apply st_t); exact rfl; assumption)
      | ((with_reducible apply st_f); exact rfl; assumption)
      | ((with_reducible apply st_some); exact rfl)
      | exact rfl
  case true =>
    have hloop : iter (tbody 1 (S197L1 G fuel (sl ss) (il cs) (.int (cs.length : Int)))) fuel [.int 0] = some (0, [.int (cs.length : Int), .bool false]) := by
      refine iter_to (body := tbody 1 (S197L1 G fuel (sl ss) (il cs) (.int (cs.length : Int)))) (n := cs.length) (l := 0) (fun k => [.int (k : Int)]) (by omega) (fun k hk => ?_) ?_
      · have := List.all_eq_true.1 hall k (List.mem_range.2 hk)
        rw [hgo k hk, if_pos this]
      · refine tb rfl ?_
        have h0 : decide ((cs.length : Int) < (cs.length : Int)) = false := by simp
        unfold S197L1
        repeat' first
          | with_reducible refine st_ift ?_
          | with_reducible refine st_iff ?_
          | ((with_reducible apply st_callt); assumption; exact rfl; exact rfl; assumption)
          | ((with_reducible apply st_callf); assumption; exact rfl; exact rfl; assumption)
          | ((with_reducible apply st_call); assumption; exact rfl; exact rfl; exact rfl)
          | ((with_reducible apply st_wide); exact rfl; exact rfl)
          | ((with_reducible apply st_skip); exact rfl)
          | ((with_reducible apply st_t); exact rfl; exact rfl)
          | ((with_reducible apply st_f); exact rfl; exact rfl)
          | ((with_reducible apply st_t); exact rfl; assumption)
          | ((with_reducible apply st_f); exact rfl; assumption)
          | ((with_reducible apply st_some); exact rfl)
          | exact rfl
    repeat' first
      | with_reducible refine st_ift ?_
      | with_reducible refine st_iff ?_
      | ((with_reducible apply st_join); exact hloop; exact rfl)
      | ((with_reducible apply st_some); exact hnc)
      | ((with_reducible apply st_some); exact hns)
      | ((with_reducible apply st_callt); assumption; exact rfl; exact rfl; assumption)
      | ((with_reducible apply st_callf); assumption; exact rfl; exact rfl; assumption)
      | ((with_reducible apply st_call); assumption; exact rfl; exact rfl; exact rfl)
      | ((with_reducible apply st_wide); exact rfl; exact rfl)
      | ((with_reducible apply st_skip); exact rfl)
      | ((with_reducible apply st_t); exact rfl; exact rfl)
      | ((with_reducible apply st_f); exact rfl; exact rfl)
      | ((with_reducible apply st_t); exact rfl; assumption)
      | ((with_reducible apply st_f); exact rfl; assumption)
      | ((with_reducible apply st_some); exact rfl)
      | exact rfl
set_option maxHeartbeats 4000000 in
theorem run198 {G : Told} (g19 : G 19 = F19) (g195 : G 195 = F195) (g196 : G 196 = F196) : ∀ ds rs, F198 ds = some rs → ∃ fuel, run G fuel T198 ds = some (0, rs) := by
  intro ds rs h
  unfold F198 at h
  obtain ⟨⟨B, r⟩, hb, h⟩ := Option.bind_eq_some_iff.1 h
  rw [dB_inv hb]
  dsimp only at h
  split at h
  case isFalse => cases h
  rename_i hc
  simp only [Option.some.injEq] at h
  subst h
  have hs := hc.choose_spec
  generalize hc.choose = cs at *
  clear hc
  obtain ⟨hr, hc, hcl⟩ := hs
  subst hr
  obtain ⟨vs, ts, ss, fm, bn, ws, x, y, z⟩ := B
  have hv := F195_m hc
  simp only [bd, List.cons_append, List.nil_append]
  have hz : szM vs ts + ss.length + ws.length ≤ 1048576 := hc
  simp only [bd] at hv
  generalize validB ⟨vs, ts, ss, fm, bn, ws, x, y, z⟩ = val at *
  have hfu : ∃ fuel, fuel = cs.length + 4 := ⟨_, rfl⟩
  obtain ⟨fuel, hfu⟩ := hfu
  refine ⟨fuel, ?_⟩
  rw [eq198]
  unfold S198
  have hnc := len_il (l := cs)
  have hns := len_sl (l := ss)
  cases val
  case false =>
    rw [Bool.false_and]
    repeat' first
      | with_reducible refine st_ift ?_
      | with_reducible refine st_iff ?_
      | ((with_reducible apply st_call); exact g195; exact rfl; exact hv; exact rfl)
      | ((with_reducible apply st_some); exact hnc)
      | ((with_reducible apply st_some); exact hns)
      | ((with_reducible apply st_callt); assumption; exact rfl; exact rfl; assumption)
      | ((with_reducible apply st_callf); assumption; exact rfl; exact rfl; assumption)
      | ((with_reducible apply st_call); assumption; exact rfl; exact rfl; exact rfl)
      | ((with_reducible apply st_wide); exact rfl; exact rfl)
      | ((with_reducible apply st_skip); exact rfl)
      | ((with_reducible apply st_t); exact rfl; exact rfl)
      | ((with_reducible apply st_f); exact rfl; exact rfl)
      | ((with_reducible apply st_t); exact rfl; assumption)
      | ((with_reducible apply st_f); exact rfl; assumption)
      | ((with_reducible apply st_some); exact rfl)
      | exact rfl
  rw [Bool.true_and]
  by_cases hl : cs.length = ss.length
  case neg =>
    have hd : ((cs.length : Int) != (ss.length : Int)) = true := by simp; omega
    have e : areQ ss cs = false := by
      unfold areQ
      rw [decide_eq_false hl, Bool.false_and]
    rw [e]
    repeat' first
      | with_reducible refine st_ift ?_
      | with_reducible refine st_iff ?_
      | ((with_reducible apply st_call); exact g195; exact rfl; exact hv; exact rfl)
      | ((with_reducible apply st_some); exact hnc)
      | ((with_reducible apply st_some); exact hns)
      | ((with_reducible apply st_callt); assumption; exact rfl; exact rfl; assumption)
      | ((with_reducible apply st_callf); assumption; exact rfl; exact rfl; assumption)
      | ((with_reducible apply st_call); assumption; exact rfl; exact rfl; exact rfl)
      | ((with_reducible apply st_wide); exact rfl; exact rfl)
      | ((with_reducible apply st_skip); exact rfl)
      | ((with_reducible apply st_t); exact rfl; exact rfl)
      | ((with_reducible apply st_f); exact rfl; exact rfl)
      | ((with_reducible apply st_t); exact rfl; assumption)
      | ((with_reducible apply st_f); exact rfl; assumption)
      | ((with_reducible apply st_some); exact rfl)
      | exact rfl
  have hd : ((cs.length : Int) != (ss.length : Int)) = false := by simp; omega
  have hgo : ∀ i, (hi : i < cs.length) → tbody 1 (S198L1 G fuel (sl ss) (il cs) (.int (cs.length : Int))) [.int (i : Int)] = if goodC ss cs i = true then some (0, [.int ((i + 1 : Nat) : Int)]) else some (2, [.bool false]) := by
      intro i hi
      refine tb rfl ?_
      have h0 : decide ((i : Int) < (cs.length : Int)) = true := by simpa using hi
      have hx := idx_il hi
      have hy := idx_sl (l := ss) (i := i) (by omega)
      have ha := add1n (i := i) (by omega)
      have fr := F19_range cs[i]
      have hin : ∀ k : Nat, k < i → tbody 1 (S198L0 G (sl ss) (il cs) [.int (i : Int)] (.int cs[i])) [.int (k : Int)] = if clash ss cs i k = true then some (4, [.bool false]) else some (0, [.int ((k + 1 : Nat) : Int)]) := by
        intro k hk
        refine tb rfl ?_
        have h0 : decide ((k : Int) < (i : Int)) = true := by simpa using hk
        have hk' : k < cs.length := by omega
        have xk := idx_il (l := cs) (i := k) hk'
        have yk := idx_sl (l := ss) (i := k) (by omega)
        have ak := add1n (i := k) (by omega)
        have hf := F196_m (ss[i]'(by omega)) (ss[k]'(by omega))
        have hcl : clash ss cs i k = ((cs[k] == cs[i]) && meetS (ss[i]'(by omega)) (ss[k]'(by omega))) := by
          unfold clash
          rw [getD_lt hk', getD_lt hi, getD_lt (by omega : i < ss.length), getD_lt (by omega : k < ss.length)]
        rw [hcl]
        unfold S198L0
        cases he : cs[k] == cs[i]
        · rw [Bool.false_and, if_neg (by simp)]
          repeat' first
            | with_reducible refine st_ift ?_
            | with_reducible refine st_iff ?_
            | ((with_reducible apply st_some); exact hx)
            | ((with_reducible apply st_some); exact xk)
            | ((with_reducible apply st_some); exact hy)
            | ((with_reducible apply st_some); exact yk)
            | ((with_reducible apply st_some); exact ak)
            | ((with_reducible apply st_callt); assumption; exact rfl; exact rfl; assumption)
            | ((with_reducible apply st_callf); assumption; exact rfl; exact rfl; assumption)
            | ((with_reducible apply st_call); assumption; exact rfl; exact rfl; exact rfl)
            | ((with_reducible apply st_wide); exact rfl; exact rfl)
            | ((with_reducible apply st_skip); exact rfl)
            | ((with_reducible apply st_t); exact rfl; exact rfl)
            | ((with_reducible apply st_f); exact rfl; exact rfl)
            | ((with_reducible apply st_t); exact rfl; assumption)
            | ((with_reducible apply st_f); exact rfl; assumption)
            | ((with_reducible apply st_some); exact rfl)
            | exact rfl
        · rw [Bool.true_and]
          cases hm : meetS (ss[i]'(by omega)) (ss[k]'(by omega))
          · rw [hm] at hf
            rw [if_neg (by simp)]
            repeat' first
              | with_reducible refine st_ift ?_
              | with_reducible refine st_iff ?_
              | ((with_reducible apply st_call); exact g196; exact rfl; exact hf; exact rfl)
              | ((with_reducible apply st_some); exact hx)
              | ((with_reducible apply st_some); exact xk)
              | ((with_reducible apply st_some); exact hy)
              | ((with_reducible apply st_some); exact yk)
              | ((with_reducible apply st_some); exact ak)
              | ((with_reducible apply st_callt); assumption; exact rfl; exact rfl; assumption)
              | ((with_reducible apply st_callf); assumption; exact rfl; exact rfl; assumption)
              | ((with_reducible apply st_call); assumption; exact rfl; exact rfl; exact rfl)
              | ((with_reducible apply st_wide); exact rfl; exact rfl)
              | ((with_reducible apply st_skip); exact rfl)
              | ((with_reducible apply st_t); exact rfl; exact rfl)
              | ((with_reducible apply st_f); exact rfl; exact rfl)
              | ((with_reducible apply st_t); exact rfl; assumption)
              | ((with_reducible apply st_f); exact rfl; assumption)
              | ((with_reducible apply st_some); exact rfl)
              | exact rfl
          · rw [hm] at hf
            rw [if_pos rfl]
            repeat' first
              | with_reducible refine st_ift ?_
              | with_reducible refine st_iff ?_
              | ((with_reducible apply st_call); exact g196; exact rfl; exact hf; exact rfl)
              | ((with_reducible apply st_some); exact hx)
              | ((with_reducible apply st_some); exact xk)
              | ((with_reducible apply st_some); exact hy)
              | ((with_reducible apply st_some); exact yk)
              | ((with_reducible apply st_some); exact ak)
              | ((with_reducible apply st_callt); assumption; exact rfl; exact rfl; assumption)
              | ((with_reducible apply st_callf); assumption; exact rfl; exact rfl; assumption)
              | ((with_reducible apply st_call); assumption; exact rfl; exact rfl; exact rfl)
              | ((with_reducible apply st_wide); exact rfl; exact rfl)
              | ((with_reducible apply st_skip); exact rfl)
              | ((with_reducible apply st_t); exact rfl; exact rfl)
              | ((with_reducible apply st_f); exact rfl; exact rfl)
              | ((with_reducible apply st_t); exact rfl; assumption)
              | ((with_reducible apply st_f); exact rfl; assumption)
              | ((with_reducible apply st_some); exact rfl)
              | exact rfl
      have hg : goodC ss cs i = (rangeP cs[i] && (List.range i).all fun k => !clash ss cs i k) := by
        unfold goodC
        rw [getD_lt hi]
      rw [hg]
      unfold S198L1
      cases hr : rangeP cs[i]
      · rw [hr] at fr
        rw [Bool.false_and, if_neg (by simp)]
        repeat' first
          | with_reducible refine st_ift ?_
          | with_reducible refine st_iff ?_
          | ((with_reducible apply st_call); exact g19; exact rfl; exact fr; exact rfl)
          | ((with_reducible apply st_some); exact hx)
          | ((with_reducible apply st_some); exact hy)
          | ((with_reducible apply st_some); exact ha)
          | ((with_reducible apply st_callt); assumption; exact rfl; exact rfl; assumption)
          | ((with_reducible apply st_callf); assumption; exact rfl; exact rfl; assumption)
          | ((with_reducible apply st_call); assumption; exact rfl; exact rfl; exact rfl)
          | ((with_reducible apply st_wide); exact rfl; exact rfl)
          | ((with_reducible apply st_skip); exact rfl)
          | ((with_reducible apply st_t); exact rfl; exact rfl)
          | ((with_reducible apply st_f); exact rfl; exact rfl)
          | ((with_reducible apply st_t); exact rfl; assumption)
          | ((with_reducible apply st_f); exact rfl; assumption)
          | ((with_reducible apply st_some); exact rfl)
          | exact rfl
      · rw [hr] at fr
        rw [Bool.true_and]
        cases hall : (List.range i).all fun k => !clash ss cs i k
        · rw [if_neg (by simp)]
          rw [List.all_eq_false] at hall
          obtain ⟨k, hk, hc⟩ := hall
          have hk := List.mem_range.1 hk
          have hloop : iter (tbody 1 (S198L0 G (sl ss) (il cs) [.int (i : Int)] (.int cs[i]))) fuel [.int 0] = some (3, [.bool false]) := by
            refine iter_bad (body := tbody 1 (S198L0 G (sl ss) (il cs) [.int (i : Int)] (.int cs[i]))) (n := i) (l := 3) (fun k => [.int (k : Int)]) (fun k => clash ss cs i k = false) (by omega) (fun k hk hg => ?_) (fun k hk hg => ?_) ⟨k, hk, by simpa using hc⟩
            · rw [hin k hk, if_neg (by rw [hg]; simp)]
            · rw [hin k hk, if_pos (by simpa using hg)]
          repeat' first
            | with_reducible refine st_ift ?_
            | with_reducible refine st_iff ?_
            | ((with_reducible apply st_out); exact hloop)
            | ((with_reducible apply st_call); exact g19; exact rfl; exact fr; exact rfl)
            | ((with_reducible apply st_some); exact hx)
            | ((with_reducible apply st_some); exact hy)
            | ((with_reducible apply st_some); exact ha)
            | ((with_reducible apply st_callt); assumption; exact rfl; exact rfl; assumption)
            | ((with_reducible apply st_callf); assumption; exact rfl; exact rfl; assumption)
            | ((with_reducible apply st_call); assumption; exact rfl; exact rfl; exact rfl)
            | ((with_reducible apply st_wide); exact rfl; exact rfl)
            | ((with_reducible apply st_skip); exact rfl)
            | ((with_reducible apply st_t); exact rfl; exact rfl)
            | ((with_reducible apply st_f); exact rfl; exact rfl)
            | ((with_reducible apply st_t); exact rfl; assumption)
            | ((with_reducible apply st_f); exact rfl; assumption)
            | ((with_reducible apply st_some); exact rfl)
            | exact rfl
        · rw [if_pos rfl]
          have hloop : iter (tbody 1 (S198L0 G (sl ss) (il cs) [.int (i : Int)] (.int cs[i]))) fuel [.int 0] = some (0, [.int (i : Int), .bool false]) := by
            refine iter_to (body := tbody 1 (S198L0 G (sl ss) (il cs) [.int (i : Int)] (.int cs[i]))) (n := i) (l := 0) (fun k => [.int (k : Int)]) (by omega) (fun k hk => ?_) ?_
            · have := List.all_eq_true.1 hall k (List.mem_range.2 hk)
              rw [hin k hk, if_neg (by simpa using this)]
            · refine tb rfl ?_
              have h0 : decide ((i : Int) < (i : Int)) = false := by simp
              unfold S198L0
              repeat' first
                | with_reducible refine st_ift ?_
                | with_reducible refine st_iff ?_
                | ((with_reducible apply st_callt); assumption; exact rfl; exact rfl; assumption)
                | ((with_reducible apply st_callf); assumption; exact rfl; exact rfl; assumption)
                | ((with_reducible apply st_call); assumption; exact rfl; exact rfl; exact rfl)
                | ((with_reducible apply st_wide); exact rfl; exact rfl)
                | ((with_reducible apply st_skip); exact rfl)
                | ((with_reducible apply st_t); exact rfl; exact rfl)
                | ((with_reducible apply st_f); exact rfl; exact rfl)
                | ((with_reducible apply st_t); exact rfl; assumption)
                | ((with_reducible apply st_f); exact rfl; assumption)
                | ((with_reducible apply st_some); exact rfl)
                | exact rfl
          repeat' first
            | with_reducible refine st_ift ?_
            | with_reducible refine st_iff ?_
            | ((with_reducible apply st_join); exact hloop; exact rfl)
            | ((with_reducible apply st_call); exact g19; exact rfl; exact fr; exact rfl)
            | ((with_reducible apply st_some); exact hx)
            | ((with_reducible apply st_some); exact hy)
            | ((with_reducible apply st_some); exact ha)
            | ((with_reducible apply st_callt); assumption; exact rfl; exact rfl; assumption)
            | ((with_reducible apply st_callf); assumption; exact rfl; exact rfl; assumption)
            | ((with_reducible apply st_call); assumption; exact rfl; exact rfl; exact rfl)
            | ((with_reducible apply st_wide); exact rfl; exact rfl)
            | ((with_reducible apply st_skip); exact rfl)
            | ((with_reducible apply st_t); exact rfl; exact rfl)
            | ((with_reducible apply st_f); exact rfl; exact rfl)
            | ((with_reducible apply st_t); exact rfl; assumption)
            | ((with_reducible apply st_f); exact rfl; assumption)
            | ((with_reducible apply st_some); exact rfl)
            | exact rfl
  have hq : areQ ss cs = (List.range cs.length).all (goodC ss cs) := by
    unfold areQ
    rw [decide_eq_true hl, Bool.true_and]
  rw [hq]
  cases hall : (List.range cs.length).all (goodC ss cs)
  case false =>
    rw [List.all_eq_false] at hall
    obtain ⟨k, hk, hc⟩ := hall
    have hk := List.mem_range.1 hk
    have hloop : iter (tbody 1 (S198L1 G fuel (sl ss) (il cs) (.int (cs.length : Int)))) fuel [.int 0] = some (1, [.bool false]) := by
      refine iter_bad (body := tbody 1 (S198L1 G fuel (sl ss) (il cs) (.int (cs.length : Int)))) (n := cs.length) (l := 1) (fun k => [.int (k : Int)]) (fun k => goodC ss cs k = true) (by omega) (fun k hk hg => ?_) (fun k hk hg => ?_) ⟨k, hk, by simpa using hc⟩
      · rw [hgo k hk, if_pos hg]
      · rw [hgo k hk, if_neg hg]
    repeat' first
      | with_reducible refine st_ift ?_
      | with_reducible refine st_iff ?_
      | ((with_reducible apply st_out); exact hloop)
      | ((with_reducible apply st_call); exact g195; exact rfl; exact hv; exact rfl)
      | ((with_reducible apply st_some); exact hnc)
      | ((with_reducible apply st_some); exact hns)
      | ((with_reducible apply st_callt); assumption; exact rfl; exact rfl; assumption)
      | ((with_reducible apply st_callf); assumption; exact rfl; exact rfl; assumption)
      | ((with_reducible apply st_call); assumption; exact rfl; exact rfl; exact rfl)
      | ((with_reducible apply st_wide); exact rfl; exact rfl)
      | ((with_reducible apply st_skip); exact rfl)
      | ((with_reducible apply st_t); exact rfl; exact rfl)
      | ((with_reducible apply st_f); exact rfl; exact rfl)
      | ((with_reducible apply st_t); exact rfl; assumption)
      | ((with_reducible apply st_f); exact rfl; assumption)
      | ((with_reducible apply st_some); exact rfl)
      | exact rfl
  case true =>
    have hloop : iter (tbody 1 (S198L1 G fuel (sl ss) (il cs) (.int (cs.length : Int)))) fuel [.int 0] = some (0, [.int (cs.length : Int), .bool false]) := by
      refine iter_to (body := tbody 1 (S198L1 G fuel (sl ss) (il cs) (.int (cs.length : Int)))) (n := cs.length) (l := 0) (fun k => [.int (k : Int)]) (by omega) (fun k hk => ?_) ?_
      · have := List.all_eq_true.1 hall k (List.mem_range.2 hk)
        rw [hgo k hk, if_pos this]
      · refine tb rfl ?_
        have h0 : decide ((cs.length : Int) < (cs.length : Int)) = false := by simp
        unfold S198L1
        repeat' first
          | with_reducible refine st_ift ?_
          | with_reducible refine st_iff ?_
          | ((with_reducible apply st_callt); assumption; exact rfl; exact rfl; assumption)
          | ((with_reducible apply st_callf); assumption; exact rfl; exact rfl; assumption)
          | ((with_reducible apply st_call); assumption; exact rfl; exact rfl; exact rfl)
          | ((with_reducible apply st_wide); exact rfl; exact rfl)
          | ((with_reducible apply st_skip); exact rfl)
          | ((with_reducible apply st_t); exact rfl; exact rfl)
          | ((with_reducible apply st_f); exact rfl; exact rfl)
          | ((with_reducible apply st_t); exact rfl; assumption)
          | ((with_reducible apply st_f); exact rfl; assumption)
          | ((with_reducible apply st_some); exact rfl)
          | exact rfl
    repeat' first
      | with_reducible refine st_ift ?_
      | with_reducible refine st_iff ?_
      | ((with_reducible apply st_join); exact hloop; exact rfl)
      | ((with_reducible apply st_call); exact g195; exact rfl; exact hv; exact rfl)
      | ((with_reducible apply st_some); exact hnc)
      | ((with_reducible apply st_some); exact hns)
      | ((with_reducible apply st_callt); assumption; exact rfl; exact rfl; assumption)
      | ((with_reducible apply st_callf); assumption; exact rfl; exact rfl; assumption)
      | ((with_reducible apply st_call); assumption; exact rfl; exact rfl; exact rfl)
      | ((with_reducible apply st_wide); exact rfl; exact rfl)
      | ((with_reducible apply st_skip); exact rfl)
      | ((with_reducible apply st_t); exact rfl; exact rfl)
      | ((with_reducible apply st_f); exact rfl; exact rfl)
      | ((with_reducible apply st_t); exact rfl; assumption)
      | ((with_reducible apply st_f); exact rfl; assumption)
      | ((with_reducible apply st_some); exact rfl)
      | exact rfl
set_option maxHeartbeats 4000000 in
theorem run198s {G : Told} (g195 : G 195 = F195) (g197 : G 197 = F197) : ∀ ds rs, F198 ds = some rs → ∃ fuel, run G fuel T198s ds = some (0, rs) := by
  intro ds rs h
  unfold F198 at h
  obtain ⟨⟨B, r⟩, hb, h⟩ := Option.bind_eq_some_iff.1 h
  rw [dB_inv hb]
  dsimp only at h
  split at h
  case isFalse => cases h
  rename_i hc
  simp only [Option.some.injEq] at h
  subst h
  have hs := hc.choose_spec
  generalize hc.choose = cs at *
  clear hc
  obtain ⟨hr, hc, hcl⟩ := hs
  subst hr
  obtain ⟨vs, ts, ss, fm, bn, ws, x, y, z⟩ := B
  have hv := F195_m hc
  have hq := F197_m hc hcl
  simp only [bd, List.cons_append, List.nil_append]
  simp only [bd, List.cons_append, List.nil_append] at hv hq
  generalize validB ⟨vs, ts, ss, fm, bn, ws, x, y, z⟩ = val at *
  generalize areQ ss cs = q at *
  refine ⟨0, ?_⟩
  rw [eq198s]
  unfold S198s
  cases val
  · rw [Bool.false_and]
    repeat' first
      | with_reducible refine st_ift ?_
      | with_reducible refine st_iff ?_
      | ((with_reducible apply st_call); exact g195; exact rfl; exact hv; exact rfl)
      | ((with_reducible apply st_callt); assumption; exact rfl; exact rfl; assumption)
      | ((with_reducible apply st_callf); assumption; exact rfl; exact rfl; assumption)
      | ((with_reducible apply st_call); assumption; exact rfl; exact rfl; exact rfl)
      | ((with_reducible apply st_wide); exact rfl; exact rfl)
      | ((with_reducible apply st_skip); exact rfl)
      | ((with_reducible apply st_t); exact rfl; exact rfl)
      | ((with_reducible apply st_f); exact rfl; exact rfl)
      | ((with_reducible apply st_t); exact rfl; assumption)
      | ((with_reducible apply st_f); exact rfl; assumption)
      | ((with_reducible apply st_some); exact rfl)
      | exact rfl
  · rw [Bool.true_and]
    repeat' first
      | with_reducible refine st_ift ?_
      | with_reducible refine st_iff ?_
      | ((with_reducible apply st_call); exact g195; exact rfl; exact hv; exact rfl)
      | ((with_reducible apply st_call); exact g197; exact rfl; exact hq; exact rfl)
      | ((with_reducible apply st_callt); assumption; exact rfl; exact rfl; assumption)
      | ((with_reducible apply st_callf); assumption; exact rfl; exact rfl; assumption)
      | ((with_reducible apply st_call); assumption; exact rfl; exact rfl; exact rfl)
      | ((with_reducible apply st_wide); exact rfl; exact rfl)
      | ((with_reducible apply st_skip); exact rfl)
      | ((with_reducible apply st_t); exact rfl; exact rfl)
      | ((with_reducible apply st_f); exact rfl; exact rfl)
      | ((with_reducible apply st_t); exact rfl; assumption)
      | ((with_reducible apply st_f); exact rfl; assumption)
      | ((with_reducible apply st_some); exact rfl)
      | exact rfl
set_option maxHeartbeats 4000000 in
theorem run199 {G : Told} (g100 : G 100 = F100) (g143 : G 143 = F143) (g182 : G 182 = F182) (g186 : G 186 = F186) (g190 : G 190 = F190) (g198 : G 198 = F198) : ∀ ds rs, F199 ds = some rs → ∃ fuel, run G fuel T199 ds = some (0, rs) := by
  intro ds rs h
  unfold F199 at h
  obtain ⟨⟨B, r⟩, hb, h⟩ := Option.bind_eq_some_iff.1 h
  rw [dB_inv hb]
  dsimp only at h
  split at h
  case isFalse => cases h
  rename_i hc
  simp only [Option.some.injEq] at h
  subst h
  obtain ⟨cs, hr, hc, hcl⟩ := hc
  subst hr
  have z1 := F182_m hc
  have t1 := F186_m (B := B)
  have q1 := F190_m (B := B)
  have r1 := F198_m (B := B) (cs := cs)
  have hnc := len_il (l := cs)
  generalize szB B = n at *
  generalize (validB B && areQ B.ss cs) = w at *
  obtain ⟨vs, ts, ss, fm, bn, ws, x, y, z⟩ := B
  simp only [bd, List.cons_append, List.nil_append] at z1 t1 q1 r1 ⊢
  refine ⟨0, ?_⟩
  rw [eq199]
  unfold S199
  by_cases h20 : cs.length ≤ 1048576
  case neg =>
    have d0 : decide ((cs.length : Int) > 1048576) = true := by simp; omega
    repeat' first
      | with_reducible refine st_ift ?_
      | with_reducible refine st_iff ?_
      | ((with_reducible apply st_some); exact hnc)
      | ((with_reducible apply st_callt); assumption; exact rfl; exact rfl; assumption)
      | ((with_reducible apply st_callf); assumption; exact rfl; exact rfl; assumption)
      | ((with_reducible apply st_call); assumption; exact rfl; exact rfl; exact rfl)
      | ((with_reducible apply st_wide); exact rfl; exact rfl)
      | ((with_reducible apply st_skip); exact rfl)
      | ((with_reducible apply st_t); exact rfl; exact rfl)
      | ((with_reducible apply st_f); exact rfl; exact rfl)
      | ((with_reducible apply st_t); exact rfl; assumption)
      | ((with_reducible apply st_f); exact rfl; assumption)
      | ((with_reducible apply st_some); exact rfl)
      | exact rfl
  have d0 : decide ((cs.length : Int) > 1048576) = false := by simp; omega
  by_cases hn : n ≤ 1048576
  case neg =>
    rw [szP_neg hn] at z1
    repeat' first
      | with_reducible refine st_ift ?_
      | with_reducible refine st_iff ?_
      | ((with_reducible apply st_call); exact g182; exact rfl; exact z1; exact rfl)
      | ((with_reducible apply st_some); exact hnc)
      | ((with_reducible apply st_callt); assumption; exact rfl; exact rfl; assumption)
      | ((with_reducible apply st_callf); assumption; exact rfl; exact rfl; assumption)
      | ((with_reducible apply st_call); assumption; exact rfl; exact rfl; exact rfl)
      | ((with_reducible apply st_wide); exact rfl; exact rfl)
      | ((with_reducible apply st_skip); exact rfl)
      | ((with_reducible apply st_t); exact rfl; exact rfl)
      | ((with_reducible apply st_f); exact rfl; exact rfl)
      | ((with_reducible apply st_t); exact rfl; assumption)
      | ((with_reducible apply st_f); exact rfl; assumption)
      | ((with_reducible apply st_some); exact rfl)
      | exact rfl
  rw [szP_pos hn] at z1
  have d1 : decide ((1048576 : Int) - (n : Nat) < 0) = false := by simp; omega
  have t1 := t1 hn
  have q1 := q1 hn
  have r1 := r1 hn h20
  have t2 := F143_il h20
  have q2 := F100_il h20
  cases w
  · repeat' first
      | with_reducible refine st_ift ?_
      | with_reducible refine st_iff ?_
      | ((with_reducible apply st_call); exact g182; exact rfl; exact z1; exact rfl)
      | ((with_reducible apply st_call); exact g186; exact rfl; exact t1; exact rfl)
      | ((with_reducible apply st_call); exact g143; exact rfl; exact t2; exact rfl)
      | ((with_reducible apply st_call); exact g198; exact rfl; exact r1; exact rfl)
      | ((with_reducible apply st_call); exact g190; exact rfl; exact q1; exact rfl)
      | ((with_reducible apply st_call); exact g100; exact rfl; exact q2; exact rfl)
      | ((with_reducible apply st_some); exact hnc)
      | ((with_reducible apply st_callt); assumption; exact rfl; exact rfl; assumption)
      | ((with_reducible apply st_callf); assumption; exact rfl; exact rfl; assumption)
      | ((with_reducible apply st_call); assumption; exact rfl; exact rfl; exact rfl)
      | ((with_reducible apply st_wide); exact rfl; exact rfl)
      | ((with_reducible apply st_skip); exact rfl)
      | ((with_reducible apply st_t); exact rfl; exact rfl)
      | ((with_reducible apply st_f); exact rfl; exact rfl)
      | ((with_reducible apply st_t); exact rfl; assumption)
      | ((with_reducible apply st_f); exact rfl; assumption)
      | ((with_reducible apply st_some); exact rfl)
      | exact rfl
  · repeat' first
      | with_reducible refine st_ift ?_
      | with_reducible refine st_iff ?_
      | ((with_reducible apply st_call); exact g182; exact rfl; exact z1; exact rfl)
      | ((with_reducible apply st_call); exact g186; exact rfl; exact t1; exact rfl)
      | ((with_reducible apply st_call); exact g143; exact rfl; exact t2; exact rfl)
      | ((with_reducible apply st_call); exact g198; exact rfl; exact r1; exact rfl)
      | ((with_reducible apply st_call); exact g190; exact rfl; exact q1; exact rfl)
      | ((with_reducible apply st_call); exact g100; exact rfl; exact q2; exact rfl)
      | ((with_reducible apply st_some); exact hnc)
      | ((with_reducible apply st_callt); assumption; exact rfl; exact rfl; assumption)
      | ((with_reducible apply st_callf); assumption; exact rfl; exact rfl; assumption)
      | ((with_reducible apply st_call); assumption; exact rfl; exact rfl; exact rfl)
      | ((with_reducible apply st_wide); exact rfl; exact rfl)
      | ((with_reducible apply st_skip); exact rfl)
      | ((with_reducible apply st_t); exact rfl; exact rfl)
      | ((with_reducible apply st_f); exact rfl; exact rfl)
      | ((with_reducible apply st_t); exact rfl; assumption)
      | ((with_reducible apply st_f); exact rfl; assumption)
      | ((with_reducible apply st_some); exact rfl)
      | exact rfl
set_option maxHeartbeats 4000000 in
theorem run201 {G : Told} (g13 : G 13 = F13) : ∀ ds rs, F201 ds = some rs → ∃ fuel, run G fuel T201 ds = some (0, rs) := by
  intro ds rs h
  unfold F201 at h
  obtain ⟨⟨B, r⟩, hb, h⟩ := Option.bind_eq_some_iff.1 h
  rw [dB_inv hb]
  dsimp only at h
  split at h
  case isFalse => cases h
  rename_i hc
  simp only [Option.some.injEq] at h
  subst h
  have hs := hc.choose_spec
  generalize hc.choose = s at *
  clear hc
  obtain ⟨hr, ha, hb2⟩ := hs
  subst hr
  obtain ⟨vs, ts, ss, fm, bn, ws, x, y, z⟩ := B
  have xa := idx_plc ha
  have xb := idx_plc hb2
  simp only [bd, List.cons_append, List.nil_append] at xa xb ⊢
  refine ⟨0, ?_⟩
  rw [eq201]
  unfold S201
  generalize plc vs s.a = a at *
  generalize plc vs s.b = b at *
  have h1 : F13 [.flt b.x, .flt b.y, .flt b.z, .flt a.x, .flt a.y, .flt a.z] = some [.flt (lessV b a).x, .flt (lessV b a).y, .flt (lessV b a).z] := rfl
  unfold nds
  generalize lessV b a = v at *
  repeat' first
    | with_reducible refine st_ift ?_
    | with_reducible refine st_iff ?_
    | ((with_reducible apply st_call); exact g13; exact rfl; exact h1; exact rfl)
    | ((with_reducible apply st_some); exact xa)
    | ((with_reducible apply st_some); exact xb)
    | ((with_reducible apply st_callt); assumption; exact rfl; exact rfl; assumption)
    | ((with_reducible apply st_callf); assumption; exact rfl; exact rfl; assumption)
    | ((with_reducible apply st_call); assumption; exact rfl; exact rfl; exact rfl)
    | ((with_reducible apply st_wide); exact rfl; exact rfl)
    | ((with_reducible apply st_skip); exact rfl)
    | ((with_reducible apply st_t); exact rfl; exact rfl)
    | ((with_reducible apply st_f); exact rfl; exact rfl)
    | ((with_reducible apply st_t); exact rfl; assumption)
    | ((with_reducible apply st_f); exact rfl; assumption)
    | ((with_reducible apply st_some); exact rfl)
    | exact rfl
set_option maxHeartbeats 4000000 in
theorem run200 {G : Told} (g201 : G 201 = F201) (g15 : G 15 = F15) (g195 : G 195 = F195) : ∀ ds rs, F200 ds = some rs → ∃ fuel, run G fuel T200 ds = some (0, rs) := by
  intro ds rs h
  unfold F200 at h
  obtain ⟨⟨B, r⟩, hb, h⟩ := Option.bind_eq_some_iff.1 h
  rw [dB_inv hb]
  split at h
  case isFalse => cases h
  rename_i hc
  simp only [Option.some.injEq] at h
  subst h
  obtain ⟨hr, hc⟩ := hc
  dsimp only at hr hc
  subst hr
  obtain ⟨vs, ts, ss, fm, bn, ws, x, y, z⟩ := B
  have hv := F195_m hc
  have hval : validB ⟨vs, ts, ss, fm, bn, ws, x, y, z⟩ = true → ss.length ≤ 200 ∧ ∀ i, (hi : i < ss.length) → inr vs.length ss[i].a = true ∧ inr vs.length ss[i].b = true := by
    intro h
    unfold validB at h
    simp only [Bool.and_eq_true, decide_eq_true_eq] at h
    refine ⟨h.1.1.2, fun i hi => ?_⟩
    have := List.all_eq_true.1 h.2 _ (List.getElem_mem hi)
    unfold sprP at this
    simp only [Bool.and_eq_true] at this
    exact ⟨this.1.1.1, this.1.1.2⟩
  unfold worstP
  have hF : ∀ s : Sp, inr vs.length s.a = true → inr vs.length s.b = true → F201 [vl vs, tl ts, sl ss, .flt fm, .flt bn, fl ws, .flt x, .flt y, .flt z, .int s.a, .int s.b, .flt s.l, .flt s.k] = some (nds (lessV (plc vs s.b) (plc vs s.a))) := fun s h1 h2 => F201_m (B := ⟨vs, ts, ss, fm, bn, ws, x, y, z⟩) h1 h2
  simp only [bd, List.cons_append, List.nil_append] at hv ⊢
  generalize validB ⟨vs, ts, ss, fm, bn, ws, x, y, z⟩ = val at *
  refine ⟨ss.length + 1, ?_⟩
  rw [eq200]
  unfold S200
  have hns := len_sl (l := ss)
  cases val
  case false =>
    rw [if_neg (by simp)]
    repeat' first
      | with_reducible refine st_ift ?_
      | with_reducible refine st_iff ?_
      | ((with_reducible apply st_call); exact g195; exact rfl; exact hv; exact rfl)
      | ((with_reducible apply st_callt); assumption; exact rfl; exact rfl; assumption)
      | ((with_reducible apply st_callf); assumption; exact rfl; exact rfl; assumption)
      | ((with_reducible apply st_call); assumption; exact rfl; exact rfl; exact rfl)
      | ((with_reducible apply st_wide); exact rfl; exact rfl)
      | ((with_reducible apply st_skip); exact rfl)
      | ((with_reducible apply st_t); exact rfl; exact rfl)
      | ((with_reducible apply st_f); exact rfl; exact rfl)
      | ((with_reducible apply st_t); exact rfl; assumption)
      | ((with_reducible apply st_f); exact rfl; assumption)
      | ((with_reducible apply st_some); exact rfl)
      | exact rfl
  rw [if_pos rfl]
  obtain ⟨hle, hval⟩ := hval rfl
  have hloop : iter (tbody 3 (S200L0 G (vl vs) (tl ts) (sl ss) (.flt fm) (.flt bn) (fl ws) (.flt x) (.flt y) (.flt z) (.int (ss.length : Int)))) (ss.length + 1) [.int (-1), .flt 0, .int 0] = some (0, [.int (wsN vs ss ss.length).1, .flt (wsN vs ss ss.length).2, .int (ss.length : Int), .bool false]) := by
    refine iter_upto (body := tbody 3 (S200L0 G (vl vs) (tl ts) (sl ss) (.flt fm) (.flt bn) (fl ws) (.flt x) (.flt y) (.flt z) (.int (ss.length : Int)))) (n := ss.length) (l := 0) (fun i => [.int (wsN vs ss i).1, .flt (wsN vs ss i).2, .int (i : Int)]) ?_ ?_
    · intro i hi
      refine tb rfl ?_
      have h0 : decide ((i : Int) < (ss.length : Int)) = true := by simpa using hi
      have hx := idx_sl hi
      have ha := add1n (i := i) (by omega)
      obtain ⟨ia, ib⟩ := hval i hi
      have e : wsN vs ss (i + 1) = wsStep (wsN vs ss i) i (wsE vs ss[i]) := by
        simp only [wsN, getD_lt hi]
      rw [e]
      have xa := idx_plc ia
      have xb := idx_plc ib
      have hal := hF ss[i] ia ib
      generalize wsN vs ss i = p at *
      obtain ⟨best, most⟩ := p
      have hE : wsE vs ss[i] = if flt .f32 (fsub .f32 (longV (lessV (plc vs ss[i].b) (plc vs ss[i].a))) ss[i].l) 0 then fneg .f32 (fsub .f32 (longV (lessV (plc vs ss[i].b) (plc vs ss[i].a))) ss[i].l) else fsub .f32 (longV (lessV (plc vs ss[i].b) (plc vs ss[i].a))) ss[i].l := by unfold wsE; rfl
      have hln : F15 [.flt (lessV (plc vs ss[i].b) (plc vs ss[i].a)).x, .flt (lessV (plc vs ss[i].b) (plc vs ss[i].a)).y, .flt (lessV (plc vs ss[i].b) (plc vs ss[i].a)).z] = some [.flt (longV (lessV (plc vs ss[i].b) (plc vs ss[i].a)))] := by unfold longV; rfl
      rw [hE]
      generalize longV (lessV (plc vs ss[i].b) (plc vs ss[i].a)) = lg at *
      generalize lessV (plc vs ss[i].b) (plc vs ss[i].a) = dv at *
      generalize hd : fsub .f32 lg ss[i].l = d at *
      have hsub : gev none (.far .sub .f32) [.flt lg, .flt ss[i].l] = some (.flt d) := by rw [← hd]; rfl
      have hE2 : ∃ e, (if flt .f32 d 0 = true then fneg .f32 d else d) = e := ⟨_, rfl⟩
      obtain ⟨e, hE2⟩ := hE2
      rw [hE2]
      have htif : tif (.bool (flt .f32 d 0)) ((gev none (.fneg .f32) [.flt d]).bind fun x35 => some (0, [x35])) (some (0, [.flt d])) = some (0, [.flt e]) := by
        cases hq : flt .f32 d 0
        · rw [hq] at hE2
          have hE2 : d = e := hE2
          subst hE2
          exact st_iff rfl
        · rw [hq] at hE2
          have hE2 : fneg .f32 d = e := hE2
          subst hE2
          exact st_ift rfl
      clear hE2
      unfold S200L0 wsStep
      dsimp only
      cases c1 : feq .f32 e e
      case false =>
        rw [Bool.false_and, if_neg (by simp)]
        repeat' first
          | with_reducible refine st_ift ?_
          | with_reducible refine st_iff ?_
          | ((with_reducible refine st_join (ds := [.flt e]) ?_ ?_ ?_); exact htif)
          | (with_reducible refine st_join (ds := [.int best, .flt most]) ?_ ?_ ?_)
          | ((with_reducible apply st_call); exact g201; exact rfl; exact hal; exact rfl)
          | ((with_reducible apply st_call); exact g15; exact rfl; exact hln; exact rfl)
          | ((with_reducible apply st_some); exact hx)
          | ((with_reducible apply st_some); exact ha)
          | ((with_reducible apply st_some); exact hsub)
          | ((with_reducible apply st_some); exact xa)
          | ((with_reducible apply st_some); exact xb)
          | ((with_reducible apply st_callt); assumption; exact rfl; exact rfl; assumption)
          | ((with_reducible apply st_callf); assumption; exact rfl; exact rfl; assumption)
          | ((with_reducible apply st_call); assumption; exact rfl; exact rfl; exact rfl)
          | ((with_reducible apply st_wide); exact rfl; exact rfl)
          | ((with_reducible apply st_skip); exact rfl)
          | ((with_reducible apply st_t); exact rfl; exact rfl)
          | ((with_reducible apply st_f); exact rfl; exact rfl)
          | ((with_reducible apply st_t); exact rfl; assumption)
          | ((with_reducible apply st_f); exact rfl; assumption)
          | ((with_reducible apply st_some); exact rfl)
          | exact rfl
      rw [Bool.true_and]
      cases c2 : decide (best < 0)
      case true =>
        rw [Bool.true_or, if_pos rfl]
        repeat' first
          | with_reducible refine st_ift ?_
          | with_reducible refine st_iff ?_
          | ((with_reducible refine st_join (ds := [.flt e]) ?_ ?_ ?_); exact htif)
          | (with_reducible refine st_join (ds := [.int i, .flt e]) ?_ ?_ ?_)
          | ((with_reducible apply st_call); exact g201; exact rfl; exact hal; exact rfl)
          | ((with_reducible apply st_call); exact g15; exact rfl; exact hln; exact rfl)
          | ((with_reducible apply st_some); exact hx)
          | ((with_reducible apply st_some); exact ha)
          | ((with_reducible apply st_some); exact hsub)
          | ((with_reducible apply st_some); exact xa)
          | ((with_reducible apply st_some); exact xb)
          | ((with_reducible apply st_callt); assumption; exact rfl; exact rfl; assumption)
          | ((with_reducible apply st_callf); assumption; exact rfl; exact rfl; assumption)
          | ((with_reducible apply st_call); assumption; exact rfl; exact rfl; exact rfl)
          | ((with_reducible apply st_wide); exact rfl; exact rfl)
          | ((with_reducible apply st_skip); exact rfl)
          | ((with_reducible apply st_t); exact rfl; exact rfl)
          | ((with_reducible apply st_f); exact rfl; exact rfl)
          | ((with_reducible apply st_t); exact rfl; assumption)
          | ((with_reducible apply st_f); exact rfl; assumption)
          | ((with_reducible apply st_some); exact rfl)
          | exact rfl
      rw [Bool.false_or]
      cases c3 : fgt .f32 e most
      case false =>
        rw [if_neg (by simp)]
        repeat' first
          | with_reducible refine st_ift ?_
          | with_reducible refine st_iff ?_
          | ((with_reducible refine st_join (ds := [.flt e]) ?_ ?_ ?_); exact htif)
          | (with_reducible refine st_join (ds := [.int best, .flt most]) ?_ ?_ ?_)
          | ((with_reducible apply st_call); exact g201; exact rfl; exact hal; exact rfl)
          | ((with_reducible apply st_call); exact g15; exact rfl; exact hln; exact rfl)
          | ((with_reducible apply st_some); exact hx)
          | ((with_reducible apply st_some); exact ha)
          | ((with_reducible apply st_some); exact hsub)
          | ((with_reducible apply st_some); exact xa)
          | ((with_reducible apply st_some); exact xb)
          | ((with_reducible apply st_callt); assumption; exact rfl; exact rfl; assumption)
          | ((with_reducible apply st_callf); assumption; exact rfl; exact rfl; assumption)
          | ((with_reducible apply st_call); assumption; exact rfl; exact rfl; exact rfl)
          | ((with_reducible apply st_wide); exact rfl; exact rfl)
          | ((with_reducible apply st_skip); exact rfl)
          | ((with_reducible apply st_t); exact rfl; exact rfl)
          | ((with_reducible apply st_f); exact rfl; exact rfl)
          | ((with_reducible apply st_t); exact rfl; assumption)
          | ((with_reducible apply st_f); exact rfl; assumption)
          | ((with_reducible apply st_some); exact rfl)
          | exact rfl
      rw [if_pos rfl]
      repeat' first
        | with_reducible refine st_ift ?_
        | with_reducible refine st_iff ?_
        | ((with_reducible refine st_join (ds := [.flt e]) ?_ ?_ ?_); exact htif)
        | (with_reducible refine st_join (ds := [.int i, .flt e]) ?_ ?_ ?_)
        | ((with_reducible apply st_call); exact g201; exact rfl; exact hal; exact rfl)
        | ((with_reducible apply st_call); exact g15; exact rfl; exact hln; exact rfl)
        | ((with_reducible apply st_some); exact hx)
        | ((with_reducible apply st_some); exact ha)
        | ((with_reducible apply st_some); exact hsub)
        | ((with_reducible apply st_some); exact xa)
        | ((with_reducible apply st_some); exact xb)
        | ((with_reducible apply st_callt); assumption; exact rfl; exact rfl; assumption)
        | ((with_reducible apply st_callf); assumption; exact rfl; exact rfl; assumption)
        | ((with_reducible apply st_call); assumption; exact rfl; exact rfl; exact rfl)
        | ((with_reducible apply st_wide); exact rfl; exact rfl)
        | ((with_reducible apply st_skip); exact rfl)
        | ((with_reducible apply st_t); exact rfl; exact rfl)
        | ((with_reducible apply st_f); exact rfl; exact rfl)
        | ((with_reducible apply st_t); exact rfl; assumption)
        | ((with_reducible apply st_f); exact rfl; assumption)
        | ((with_reducible apply st_some); exact rfl)
        | exact rfl
    · refine tb rfl ?_
      have h0 : decide ((ss.length : Int) < (ss.length : Int)) = false := by simp
      unfold S200L0
      repeat' first
        | with_reducible refine st_ift ?_
        | with_reducible refine st_iff ?_
        | ((with_reducible apply st_callt); assumption; exact rfl; exact rfl; assumption)
        | ((with_reducible apply st_callf); assumption; exact rfl; exact rfl; assumption)
        | ((with_reducible apply st_call); assumption; exact rfl; exact rfl; exact rfl)
        | ((with_reducible apply st_wide); exact rfl; exact rfl)
        | ((with_reducible apply st_skip); exact rfl)
        | ((with_reducible apply st_t); exact rfl; exact rfl)
        | ((with_reducible apply st_f); exact rfl; exact rfl)
        | ((with_reducible apply st_t); exact rfl; assumption)
        | ((with_reducible apply st_f); exact rfl; assumption)
        | ((with_reducible apply st_some); exact rfl)
        | exact rfl
  generalize wsN vs ss ss.length = p at *
  by_cases hb : p.1 < 0
  · have hd : decide (p.1 < 0) = true := by simpa using hb
    rw [if_pos hb]
    repeat' first
      | with_reducible refine st_ift ?_
      | with_reducible refine st_iff ?_
      | ((with_reducible apply st_join); exact hloop; exact rfl)
      | ((with_reducible apply st_call); exact g195; exact rfl; exact hv; exact rfl)
      | ((with_reducible apply st_some); exact hns)
      | ((with_reducible apply st_callt); assumption; exact rfl; exact rfl; assumption)
      | ((with_reducible apply st_callf); assumption; exact rfl; exact rfl; assumption)
      | ((with_reducible apply st_call); assumption; exact rfl; exact rfl; exact rfl)
      | ((with_reducible apply st_wide); exact rfl; exact rfl)
      | ((with_reducible apply st_skip); exact rfl)
      | ((with_reducible apply st_t); exact rfl; exact rfl)
      | ((with_reducible apply st_f); exact rfl; exact rfl)
      | ((with_reducible apply st_t); exact rfl; assumption)
      | ((with_reducible apply st_f); exact rfl; assumption)
      | ((with_reducible apply st_some); exact rfl)
      | exact rfl
  · have hd : decide (p.1 < 0) = false := by simpa using hb
    rw [if_neg hb]
    repeat' first
      | with_reducible refine st_ift ?_
      | with_reducible refine st_iff ?_
      | ((with_reducible apply st_join); exact hloop; exact rfl)
      | ((with_reducible apply st_call); exact g195; exact rfl; exact hv; exact rfl)
      | ((with_reducible apply st_some); exact hns)
      | ((with_reducible apply st_callt); assumption; exact rfl; exact rfl; assumption)
      | ((with_reducible apply st_callf); assumption; exact rfl; exact rfl; assumption)
      | ((with_reducible apply st_call); assumption; exact rfl; exact rfl; exact rfl)
      | ((with_reducible apply st_wide); exact rfl; exact rfl)
      | ((with_reducible apply st_skip); exact rfl)
      | ((with_reducible apply st_t); exact rfl; exact rfl)
      | ((with_reducible apply st_f); exact rfl; exact rfl)
      | ((with_reducible apply st_t); exact rfl; assumption)
      | ((with_reducible apply st_f); exact rfl; assumption)
      | ((with_reducible apply st_some); exact rfl)
      | exact rfl
set_option maxHeartbeats 4000000 in
theorem run200s {G : Told} (g13 : G 13 = F13) (g15 : G 15 = F15) (g195 : G 195 = F195) : ∀ ds rs, F200 ds = some rs → ∃ fuel, run G fuel T200s ds = some (0, rs) := by
  intro ds rs h
  unfold F200 at h
  obtain ⟨⟨B, r⟩, hb, h⟩ := Option.bind_eq_some_iff.1 h
  rw [dB_inv hb]
  split at h
  case isFalse => cases h
  rename_i hc
  simp only [Option.some.injEq] at h
  subst h
  obtain ⟨hr, hc⟩ := hc
  dsimp only at hr hc
  subst hr
  obtain ⟨vs, ts, ss, fm, bn, ws, x, y, z⟩ := B
  have hv := F195_m hc
  have hval : validB ⟨vs, ts, ss, fm, bn, ws, x, y, z⟩ = true → ss.length ≤ 200 ∧ ∀ i, (hi : i < ss.length) → inr vs.length ss[i].a = true ∧ inr vs.length ss[i].b = true := by
    intro h
    unfold validB at h
    simp only [Bool.and_eq_true, decide_eq_true_eq] at h
    refine ⟨h.1.1.2, fun i hi => ?_⟩
    have := List.all_eq_true.1 h.2 _ (List.getElem_mem hi)
    unfold sprP at this
    simp only [Bool.and_eq_true] at this
    exact ⟨this.1.1.1, this.1.1.2⟩
  unfold worstP
  simp only [bd, List.cons_append, List.nil_append] at hv ⊢
  generalize validB ⟨vs, ts, ss, fm, bn, ws, x, y, z⟩ = val at *
  refine ⟨ss.length + 1, ?_⟩
  rw [eq200s]
  unfold S200s
  have hns := len_sl (l := ss)
  cases val
  case false =>
    rw [if_neg (by simp)]
    repeat' first
      | with_reducible refine st_ift ?_
      | with_reducible refine st_iff ?_
      | ((with_reducible apply st_call); exact g195; exact rfl; exact hv; exact rfl)
      | ((with_reducible apply st_callt); assumption; exact rfl; exact rfl; assumption)
      | ((with_reducible apply st_callf); assumption; exact rfl; exact rfl; assumption)
      | ((with_reducible apply st_call); assumption; exact rfl; exact rfl; exact rfl)
      | ((with_reducible apply st_wide); exact rfl; exact rfl)
      | ((with_reducible apply st_skip); exact rfl)
      | ((with_reducible apply st_t); exact rfl; exact rfl)
      | ((with_reducible apply st_f); exact rfl; exact rfl)
      | ((with_reducible apply st_t); exact rfl; assumption)
      | ((with_reducible apply st_f); exact rfl; assumption)
      | ((with_reducible apply st_some); exact rfl)
      | exact rfl
  rw [if_pos rfl]
  obtain ⟨hle, hval⟩ := hval rfl
  have hloop : iter (tbody 3 (S200sL0 G (vl vs) (sl ss) (.int (ss.length : Int)))) (ss.length + 1) [.int (-1), .flt 0, .int 0] = some (0, [.int (wsN vs ss ss.length).1, .flt (wsN vs ss ss.length).2, .int (ss.length : Int), .bool false]) := by
    refine iter_upto (body := tbody 3 (S200sL0 G (vl vs) (sl ss) (.int (ss.length : Int)))) (n := ss.length) (l := 0) (fun i => [.int (wsN vs ss i).1, .flt (wsN vs ss i).2, .int (i : Int)]) ?_ ?_
    · intro i hi
      refine tb rfl ?_
      have h0 : decide ((i : Int) < (ss.length : Int)) = true := by simpa using hi
      have hx := idx_sl hi
      have ha := add1n (i := i) (by omega)
      obtain ⟨ia, ib⟩ := hval i hi
      have e : wsN vs ss (i + 1) = wsStep (wsN vs ss i) i (wsE vs ss[i]) := by
        simp only [wsN, getD_lt hi]
      rw [e]
      have xa := idx_plc ia
      have xb := idx_plc ib
      have hal : F13 [.flt (plc vs ss[i].b).x, .flt (plc vs ss[i].b).y, .flt (plc vs ss[i].b).z, .flt (plc vs ss[i].a).x, .flt (plc vs ss[i].a).y, .flt (plc vs ss[i].a).z] = some (nds (lessV (plc vs ss[i].b) (plc vs ss[i].a))) := rfl
      generalize wsN vs ss i = p at *
      obtain ⟨best, most⟩ := p
      have hE : wsE vs ss[i] = if flt .f32 (fsub .f32 (longV (lessV (plc vs ss[i].b) (plc vs ss[i].a))) ss[i].l) 0 then fneg .f32 (fsub .f32 (longV (lessV (plc vs ss[i].b) (plc vs ss[i].a))) ss[i].l) else fsub .f32 (longV (lessV (plc vs ss[i].b) (plc vs ss[i].a))) ss[i].l := by unfold wsE; rfl
      have hln : F15 [.flt (lessV (plc vs ss[i].b) (plc vs ss[i].a)).x, .flt (lessV (plc vs ss[i].b) (plc vs ss[i].a)).y, .flt (lessV (plc vs ss[i].b) (plc vs ss[i].a)).z] = some [.flt (longV (lessV (plc vs ss[i].b) (plc vs ss[i].a)))] := by unfold longV; rfl
      rw [hE]
      generalize longV (lessV (plc vs ss[i].b) (plc vs ss[i].a)) = lg at *
      generalize lessV (plc vs ss[i].b) (plc vs ss[i].a) = dv at *
      generalize hd : fsub .f32 lg ss[i].l = d at *
      have hsub : gev none (.far .sub .f32) [.flt lg, .flt ss[i].l] = some (.flt d) := by rw [← hd]; rfl
      have hE2 : ∃ e, (if flt .f32 d 0 = true then fneg .f32 d else d) = e := ⟨_, rfl⟩
      obtain ⟨e, hE2⟩ := hE2
      rw [hE2]
      have htif : tif (.bool (flt .f32 d 0)) ((gev none (.fneg .f32) [.flt d]).bind fun x35 => some (0, [x35])) (some (0, [.flt d])) = some (0, [.flt e]) := by
        cases hq : flt .f32 d 0
        · rw [hq] at hE2
          have hE2 : d = e := hE2
          subst hE2
          exact st_iff rfl
        · rw [hq] at hE2
          have hE2 : fneg .f32 d = e := hE2
          subst hE2
          exact st_ift rfl
      clear hE2
      unfold S200sL0 wsStep
      dsimp only
      cases c1 : feq .f32 e e
      case false =>
        rw [Bool.false_and, if_neg (by simp)]
        repeat' first
          | with_reducible refine st_ift ?_
          | with_reducible refine st_iff ?_
          | ((with_reducible refine st_join (ds := [.flt e]) ?_ ?_ ?_); exact htif)
          | (with_reducible refine st_join (ds := [.int best, .flt most]) ?_ ?_ ?_)
          | ((with_reducible apply st_call); exact g13; exact rfl; exact hal; exact rfl)
          | ((with_reducible apply st_call); exact g15; exact rfl; exact hln; exact rfl)
          | ((with_reducible apply st_some); exact hx)
          | ((with_reducible apply st_some); exact ha)
          | ((with_reducible apply st_some); exact hsub)
          | ((with_reducible apply st_some); exact xa)
          | ((with_reducible apply st_some); exact xb)
          | ((with_reducible apply st_callt); assumption; exact rfl; exact rfl; assumption)
          | ((with_reducible apply st_callf); assumption; exact rfl; exact rfl; assumption)
          | ((with_reducible apply st_call); assumption; exact rfl; exact rfl; exact rfl)
          | ((with_reducible apply st_wide); exact rfl; exact rfl)
          | ((with_reducible apply st_skip); exact rfl)
          | ((with_reducible apply st_t); exact rfl; exact rfl)
          | ((with_reducible apply st_f); exact rfl; exact rfl)
          | ((with_reducible apply st_t); exact rfl; assumption)
          | ((with_reducible apply st_f); exact rfl; assumption)
          | ((with_reducible apply st_some); exact rfl)
          | exact rfl
      rw [Bool.true_and]
      cases c2 : decide (best < 0)
      case true =>
        rw [Bool.true_or, if_pos rfl]
        repeat' first
          | with_reducible refine st_ift ?_
          | with_reducible refine st_iff ?_
          | ((with_reducible refine st_join (ds := [.flt e]) ?_ ?_ ?_); exact htif)
          | (with_reducible refine st_join (ds := [.int i, .flt e]) ?_ ?_ ?_)
          | ((with_reducible apply st_call); exact g13; exact rfl; exact hal; exact rfl)
          | ((with_reducible apply st_call); exact g15; exact rfl; exact hln; exact rfl)
          | ((with_reducible apply st_some); exact hx)
          | ((with_reducible apply st_some); exact ha)
          | ((with_reducible apply st_some); exact hsub)
          | ((with_reducible apply st_some); exact xa)
          | ((with_reducible apply st_some); exact xb)
          | ((with_reducible apply st_callt); assumption; exact rfl; exact rfl; assumption)
          | ((with_reducible apply st_callf); assumption; exact rfl; exact rfl; assumption)
          | ((with_reducible apply st_call); assumption; exact rfl; exact rfl; exact rfl)
          | ((with_reducible apply st_wide); exact rfl; exact rfl)
          | ((with_reducible apply st_skip); exact rfl)
          | ((with_reducible apply st_t); exact rfl; exact rfl)
          | ((with_reducible apply st_f); exact rfl; exact rfl)
          | ((with_reducible apply st_t); exact rfl; assumption)
          | ((with_reducible apply st_f); exact rfl; assumption)
          | ((with_reducible apply st_some); exact rfl)
          | exact rfl
      rw [Bool.false_or]
      cases c3 : fgt .f32 e most
      case false =>
        rw [if_neg (by simp)]
        repeat' first
          | with_reducible refine st_ift ?_
          | with_reducible refine st_iff ?_
          | ((with_reducible refine st_join (ds := [.flt e]) ?_ ?_ ?_); exact htif)
          | (with_reducible refine st_join (ds := [.int best, .flt most]) ?_ ?_ ?_)
          | ((with_reducible apply st_call); exact g13; exact rfl; exact hal; exact rfl)
          | ((with_reducible apply st_call); exact g15; exact rfl; exact hln; exact rfl)
          | ((with_reducible apply st_some); exact hx)
          | ((with_reducible apply st_some); exact ha)
          | ((with_reducible apply st_some); exact hsub)
          | ((with_reducible apply st_some); exact xa)
          | ((with_reducible apply st_some); exact xb)
          | ((with_reducible apply st_callt); assumption; exact rfl; exact rfl; assumption)
          | ((with_reducible apply st_callf); assumption; exact rfl; exact rfl; assumption)
          | ((with_reducible apply st_call); assumption; exact rfl; exact rfl; exact rfl)
          | ((with_reducible apply st_wide); exact rfl; exact rfl)
          | ((with_reducible apply st_skip); exact rfl)
          | ((with_reducible apply st_t); exact rfl; exact rfl)
          | ((with_reducible apply st_f); exact rfl; exact rfl)
          | ((with_reducible apply st_t); exact rfl; assumption)
          | ((with_reducible apply st_f); exact rfl; assumption)
          | ((with_reducible apply st_some); exact rfl)
          | exact rfl
      rw [if_pos rfl]
      repeat' first
        | with_reducible refine st_ift ?_
        | with_reducible refine st_iff ?_
        | ((with_reducible refine st_join (ds := [.flt e]) ?_ ?_ ?_); exact htif)
        | (with_reducible refine st_join (ds := [.int i, .flt e]) ?_ ?_ ?_)
        | ((with_reducible apply st_call); exact g13; exact rfl; exact hal; exact rfl)
        | ((with_reducible apply st_call); exact g15; exact rfl; exact hln; exact rfl)
        | ((with_reducible apply st_some); exact hx)
        | ((with_reducible apply st_some); exact ha)
        | ((with_reducible apply st_some); exact hsub)
        | ((with_reducible apply st_some); exact xa)
        | ((with_reducible apply st_some); exact xb)
        | ((with_reducible apply st_callt); assumption; exact rfl; exact rfl; assumption)
        | ((with_reducible apply st_callf); assumption; exact rfl; exact rfl; assumption)
        | ((with_reducible apply st_call); assumption; exact rfl; exact rfl; exact rfl)
        | ((with_reducible apply st_wide); exact rfl; exact rfl)
        | ((with_reducible apply st_skip); exact rfl)
        | ((with_reducible apply st_t); exact rfl; exact rfl)
        | ((with_reducible apply st_f); exact rfl; exact rfl)
        | ((with_reducible apply st_t); exact rfl; assumption)
        | ((with_reducible apply st_f); exact rfl; assumption)
        | ((with_reducible apply st_some); exact rfl)
        | exact rfl
    · refine tb rfl ?_
      have h0 : decide ((ss.length : Int) < (ss.length : Int)) = false := by simp
      unfold S200sL0
      repeat' first
        | with_reducible refine st_ift ?_
        | with_reducible refine st_iff ?_
        | ((with_reducible apply st_callt); assumption; exact rfl; exact rfl; assumption)
        | ((with_reducible apply st_callf); assumption; exact rfl; exact rfl; assumption)
        | ((with_reducible apply st_call); assumption; exact rfl; exact rfl; exact rfl)
        | ((with_reducible apply st_wide); exact rfl; exact rfl)
        | ((with_reducible apply st_skip); exact rfl)
        | ((with_reducible apply st_t); exact rfl; exact rfl)
        | ((with_reducible apply st_f); exact rfl; exact rfl)
        | ((with_reducible apply st_t); exact rfl; assumption)
        | ((with_reducible apply st_f); exact rfl; assumption)
        | ((with_reducible apply st_some); exact rfl)
        | exact rfl
  generalize wsN vs ss ss.length = p at *
  by_cases hb : p.1 < 0
  · have hd : decide (p.1 < 0) = true := by simpa using hb
    rw [if_pos hb]
    repeat' first
      | with_reducible refine st_ift ?_
      | with_reducible refine st_iff ?_
      | ((with_reducible apply st_join); exact hloop; exact rfl)
      | ((with_reducible apply st_call); exact g195; exact rfl; exact hv; exact rfl)
      | ((with_reducible apply st_some); exact hns)
      | ((with_reducible apply st_callt); assumption; exact rfl; exact rfl; assumption)
      | ((with_reducible apply st_callf); assumption; exact rfl; exact rfl; assumption)
      | ((with_reducible apply st_call); assumption; exact rfl; exact rfl; exact rfl)
      | ((with_reducible apply st_wide); exact rfl; exact rfl)
      | ((with_reducible apply st_skip); exact rfl)
      | ((with_reducible apply st_t); exact rfl; exact rfl)
      | ((with_reducible apply st_f); exact rfl; exact rfl)
      | ((with_reducible apply st_t); exact rfl; assumption)
      | ((with_reducible apply st_f); exact rfl; assumption)
      | ((with_reducible apply st_some); exact rfl)
      | exact rfl
  · have hd : decide (p.1 < 0) = false := by simpa using hb
    rw [if_neg hb]
    repeat' first
      | with_reducible refine st_ift ?_
      | with_reducible refine st_iff ?_
      | ((with_reducible apply st_join); exact hloop; exact rfl)
      | ((with_reducible apply st_call); exact g195; exact rfl; exact hv; exact rfl)
      | ((with_reducible apply st_some); exact hns)
      | ((with_reducible apply st_callt); assumption; exact rfl; exact rfl; assumption)
      | ((with_reducible apply st_callf); assumption; exact rfl; exact rfl; assumption)
      | ((with_reducible apply st_call); assumption; exact rfl; exact rfl; exact rfl)
      | ((with_reducible apply st_wide); exact rfl; exact rfl)
      | ((with_reducible apply st_skip); exact rfl)
      | ((with_reducible apply st_t); exact rfl; exact rfl)
      | ((with_reducible apply st_f); exact rfl; exact rfl)
      | ((with_reducible apply st_t); exact rfl; assumption)
      | ((with_reducible apply st_f); exact rfl; assumption)
      | ((with_reducible apply st_some); exact rfl)
      | exact rfl
set_option maxHeartbeats 4000000 in
theorem run202 {G : Told} (g4 : G 4 = F4) (g182 : G 182 = F182) (g186 : G 186 = F186) (g190 : G 190 = F190) (g200 : G 200 = F200) : ∀ ds rs, F202 ds = some rs → ∃ fuel, run G fuel T202 ds = some (0, rs) := by
  intro ds rs h
  unfold F202 at h
  obtain ⟨⟨B, r⟩, hb, h⟩ := Option.bind_eq_some_iff.1 h
  rw [dB_inv hb]
  dsimp only at h
  split at h
  case isFalse => cases h
  rename_i hc
  simp only [Option.some.injEq] at h
  subst h
  obtain ⟨hr, hc⟩ := hc
  subst hr
  have z1 := F182_m hc
  have t1 := F186_m (B := B)
  have q1 := F190_m (B := B)
  have r1 := F200_m (B := B)
  have hw : ∃ n m w, worstP B = [.int n, .flt m, .bool w] := by
    unfold worstP
    split
    · split <;> exact ⟨_, _, _, rfl⟩
    · exact ⟨_, _, _, rfl⟩
  obtain ⟨i, m, w, hw⟩ := hw
  rw [hw] at r1
  generalize szB B = n at *
  obtain ⟨vs, ts, ss, fm, bn, ws, x, y, z⟩ := B
  simp only [bd, List.cons_append, List.nil_append] at z1 t1 q1 r1 ⊢
  refine ⟨0, ?_⟩
  rw [eq202]
  unfold S202
  by_cases hn : n ≤ 1048576
  case neg =>
    rw [szP_neg hn] at z1
    repeat' first
      | with_reducible refine st_ift ?_
      | with_reducible refine st_iff ?_
      | ((with_reducible apply st_call); exact g182; exact rfl; exact z1; exact rfl)
      | ((with_reducible apply st_callt); assumption; exact rfl; exact rfl; assumption)
      | ((with_reducible apply st_callf); assumption; exact rfl; exact rfl; assumption)
      | ((with_reducible apply st_call); assumption; exact rfl; exact rfl; exact rfl)
      | ((with_reducible apply st_wide); exact rfl; exact rfl)
      | ((with_reducible apply st_skip); exact rfl)
      | ((with_reducible apply st_t); exact rfl; exact rfl)
      | ((with_reducible apply st_f); exact rfl; exact rfl)
      | ((with_reducible apply st_t); exact rfl; assumption)
      | ((with_reducible apply st_f); exact rfl; assumption)
      | ((with_reducible apply st_some); exact rfl)
      | exact rfl
  rw [szP_pos hn] at z1
  have d1 : decide ((1048576 : Int) - (n : Nat) < 0) = false := by simp; omega
  have t1 := t1 hn
  have q1 := q1 hn
  have r1 := r1 hn
  have e1 : (i != i) = false := by simp
  have h4 : F4 [.flt (wide m), .flt (wide m)] = some [.bool true] := by simp only [F4, sameP_self]
  cases w
  · repeat' first
      | with_reducible refine st_ift ?_
      | with_reducible refine st_iff ?_
      | ((with_reducible apply st_call); exact g182; exact rfl; exact z1; exact rfl)
      | ((with_reducible apply st_call); exact g186; exact rfl; exact t1; exact rfl)
      | ((with_reducible apply st_call); exact g200; exact rfl; exact r1; exact rfl)
      | ((with_reducible apply st_call); exact g190; exact rfl; exact q1; exact rfl)
      | ((with_reducible apply st_call); exact g4; exact rfl; exact h4; exact rfl)
      | ((with_reducible apply st_callt); assumption; exact rfl; exact rfl; assumption)
      | ((with_reducible apply st_callf); assumption; exact rfl; exact rfl; assumption)
      | ((with_reducible apply st_call); assumption; exact rfl; exact rfl; exact rfl)
      | ((with_reducible apply st_wide); exact rfl; exact rfl)
      | ((with_reducible apply st_skip); exact rfl)
      | ((with_reducible apply st_t); exact rfl; exact rfl)
      | ((with_reducible apply st_f); exact rfl; exact rfl)
      | ((with_reducible apply st_t); exact rfl; assumption)
      | ((with_reducible apply st_f); exact rfl; assumption)
      | ((with_reducible apply st_some); exact rfl)
      | exact rfl
  · repeat' first
      | with_reducible refine st_ift ?_
      | with_reducible refine st_iff ?_
      | ((with_reducible apply st_call); exact g182; exact rfl; exact z1; exact rfl)
      | ((with_reducible apply st_call); exact g186; exact rfl; exact t1; exact rfl)
      | ((with_reducible apply st_call); exact g200; exact rfl; exact r1; exact rfl)
      | ((with_reducible apply st_call); exact g190; exact rfl; exact q1; exact rfl)
      | ((with_reducible apply st_call); exact g4; exact rfl; exact h4; exact rfl)
      | ((with_reducible apply st_callt); assumption; exact rfl; exact rfl; assumption)
      | ((with_reducible apply st_callf); assumption; exact rfl; exact rfl; assumption)
      | ((with_reducible apply st_call); assumption; exact rfl; exact rfl; exact rfl)
      | ((with_reducible apply st_wide); exact rfl; exact rfl)
      | ((with_reducible apply st_skip); exact rfl)
      | ((with_reducible apply st_t); exact rfl; exact rfl)
      | ((with_reducible apply st_f); exact rfl; exact rfl)
      | ((with_reducible apply st_t); exact rfl; assumption)
      | ((with_reducible apply st_f); exact rfl; assumption)
      | ((with_reducible apply st_some); exact rfl)
      | exact rfl


/-! ### Arguments -/
abbrev eS : ET := ⟨true, [i8, i8, f1, f1]⟩
abbrev eW : ET := ⟨false, [f1]⟩
theorem spr_of_cells {vs : List Value} {ds : List D} (h : RdCs RdB [i8, i8, f1, f1] vs ds) : ∃ s : Sp, D.agg ds = spr s := by
  obtain ⟨_, hd⟩ := h.length
  match ds, hd, h with
  | [a, b, c, d], _, h =>
    obtain ⟨_, _, _, e1, _, _, h1⟩ := h.get (j := 0) rfl
    obtain ⟨_, _, _, e2, _, _, h2⟩ := h.get (j := 1) rfl
    obtain ⟨_, _, _, e3, _, _, h3⟩ := h.get (j := 2) rfl
    obtain ⟨_, _, _, e4, _, _, h4⟩ := h.get (j := 3) rfl
    cases e1
    cases e2
    cases e3
    cases e4
    exact ⟨⟨_, _, _, _⟩, by rw [h1, h2, h3, h4]; rfl⟩
theorem sl_of_rows : ∀ {ls : List (List D)} {xs : List Value}, RdRow RdB [i8, i8, f1, f1] xs ls → ∃ ss : List Sp, ls.map (unflat true) = ss.map spr
  | [], _, _ => ⟨[], rfl⟩
  | _ :: _, _, ⟨_, _, _, a, b⟩ => by
    obtain ⟨v, hv⟩ := spr_of_cells a
    obtain ⟨vs, hs⟩ := sl_of_rows b
    exact ⟨v :: vs, by simp [unflat, hv, hs]⟩
theorem fl_of_rows : ∀ {ls : List (List D)} {xs : List Value}, RdRow RdB [f1] xs ls → ∃ l : List Nat, ls.map (unflat false) = l.map D.flt
  | [], _, _ => ⟨[], rfl⟩
  | _ :: _, _, ⟨_, _, _, a, b⟩ => by
    obtain ⟨_, hd⟩ := a.length
    obtain ⟨l, hl⟩ := fl_of_rows b
    obtain ⟨_, d, _, e, q, _, h⟩ := a.get (j := 0) rfl
    refine ⟨canon .f32 q :: l, ?_⟩
    rw [List.map_cons, hl, List.map_cons]
    congr 1
    simp only [unflat]
    rw [List.headD_eq_head?_getD, List.head?_eq_getElem?, e, h]
    rfl
theorem fitsd_sl {W : World} {cs : List CT} {xs : List D} (h : FitsD W (.s1 eS :: cs) xs) : ∃ ss ys, xs = sl ss :: ys ∧ ss.length < 9223372036854775808 ∧ FitsD W cs ys := by
  match xs, h with
  | d :: ds, ⟨⟨v, ls, hd, hr⟩, hs, _, h⟩ =>
    have : ∃ ss : List Sp, ls.map (unflat true) = ss.map spr := by
      rcases hr with ⟨_, rfl⟩ | ⟨_, _, _, xs, _, _, _, _, hr⟩
      · exact ⟨[], rfl⟩
      · exact sl_of_rows hr
    obtain ⟨ss, hv⟩ := this
    have e : d = sl ss := by rw [hd, show eS.agg = true from rfl, hv]; unfold sl; rfl
    have h1 := hs _ (by rw [e]; unfold sl; rfl)
    refine ⟨ss, ds, by rw [e], ?_, h⟩
    simp [maxLen] at h1
    omega
theorem fitsd_fl {W : World} {cs : List CT} {xs : List D} (h : FitsD W (.s1 eW :: cs) xs) : ∃ ws ys, xs = fl ws :: ys ∧ ws.length < 9223372036854775808 ∧ FitsD W cs ys := by
  match xs, h with
  | d :: ds, ⟨⟨v, ls, hd, hr⟩, hs, _, h⟩ =>
    have : ∃ ws : List Nat, ls.map (unflat false) = ws.map D.flt := by
      rcases hr with ⟨_, rfl⟩ | ⟨_, _, _, xs, _, _, _, _, hr⟩
      · exact ⟨[], rfl⟩
      · exact fl_of_rows hr
    obtain ⟨ws, hv⟩ := this
    have e : d = fl ws := by rw [hd, show eW.agg = false from rfl, hv]; unfold fl; rfl
    have h1 := hs _ (by rw [e]; unfold fl; rfl)
    refine ⟨ws, ds, by rw [e], ?_, h⟩
    simp [maxLen] at h1
    omega
theorem fitsd_il {W : World} {cs : List CT} {xs : List D} (h : FitsD W (.s1 ei :: cs) xs) : ∃ l ys, xs = il l :: ys ∧ l.length < 9223372036854775808 ∧ FitsD W cs ys := by
  match xs, h with
  | d :: ds, ⟨⟨v, hr⟩, hs, _, h⟩ =>
    obtain ⟨l, e⟩ := il_of_sl hr
    have h1 := hs _ (by rw [e]; unfold il; rfl)
    refine ⟨l, ds, by rw [e], ?_, h⟩
    simp [maxLen] at h1
    omega

end Vs
