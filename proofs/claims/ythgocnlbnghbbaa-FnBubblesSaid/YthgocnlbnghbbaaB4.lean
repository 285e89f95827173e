/-
  Bubbles: the law.
-/
import Derived.Test.YthgocnlbnghbbaaK6
import Derived.Test.YthgocnlbnghbbaaB2
import Derived.Test.YthgocnlbnghbbaaB3
namespace Vs
open Go Go.RowKit Go.ChangeShapes Go.WideShapes

theorem st_ift3 {c : D} {a b X : Option (Nat × List D)} (h : c = .bool true) (k : a = X) : tif c a b = X := by subst h; exact k
theorem st_iff3 {c : D} {a b X : Option (Nat × List D)} (h : c = .bool false) (k : b = X) : tif c a b = X := by subst h; exact k
theorem getD_ltB {α : Type} {l : List α} {i : Nat} {d : α} (h : i < l.length) : l.getD i d = l[i] := by
  rw [List.getD_eq_getElem?_getD, List.getElem?_eq_getElem h]
  rfl
def atP (l : List Int) (k n : Nat) : Nat := if l.length ≤ k then 0 else ((l.getD k 0) % (n : Int)).toNat
theorem atP_lt {l : List Int} {k n : Nat} (h : 0 < n) : atP l k n < n := by
  unfold atP
  split
  · exact h
  · have h1 := Int.emod_nonneg (l.getD k 0) (show (n : Int) ≠ 0 by omega)
    have h2 := Int.emod_lt_of_pos (l.getD k 0) (show (0 : Int) < n by omega)
    omega
noncomputable def F220 : List D → Option (List D)
  | [a, b] => (dI a).bind fun l => (dI b).bind fun m => some [.bool (decide (l.length > 48) || decide (m.length > 48))]
  | _ => none
open Classical in
noncomputable def F221 : List D → Option (List D)
  | [a, .int k, .int n] => (dI a).bind fun l => if (∀ x ∈ l, 0 ≤ x ∧ x ≤ 255) ∧ 0 ≤ k ∧ 2 ≤ n then some [.int (atP l k.toNat n.toNat : Nat)] else none
  | _ => none
open Classical in
noncomputable def F234 : List D → Option (List D)
  | [a, b] => (dI a).bind fun l => (dI b).bind fun _ => if ∀ x ∈ l, 0 ≤ x ∧ x ≤ 255 then some [.bool true] else none
  | _ => none
theorem F220_m {l m : List Int} : F220 [il l, il m] = some [.bool (decide (l.length > 48) || decide (m.length > 48))] := by
  simp only [F220, dI_il, Option.bind_some]
theorem F221_m {l : List Int} {k n : Nat} (h : ∀ x ∈ l, 0 ≤ x ∧ x ≤ 255) (hn : 2 ≤ n) : F221 [il l, .int k, .int n] = some [.int (atP l k n : Nat)] := by
  simp only [F221, dI_il, Option.bind_some]
  exact if_pos ⟨h, by omega, by omega⟩

def T220 : T :=
(.op none .len [(.v 0)] <|
(.op none (.icm .gtr) [(.v 2), (.c (.int 48))] <|
(.op (some ((.v 3), false)) .id [(.v 1)] <|
(.op (some ((.v 3), false)) .len [(.v 4)] <|
(.op (some ((.v 3), false)) (.icm .gtr) [(.v 5), (.c (.int 48))] <|
(.op none .pick [(.v 3), (.c (.bool true)), (.v 6)] <|
(.out 0 [(.v 7)])))))))
def S220 (_G : Told) (_fuel : Nat) (x0 x1 : D) : Option (Nat × List D) :=
  (gev none .len [x0]).bind fun x2 =>
  (gev none (.icm .gtr) [x2, (.int 48)]).bind fun x3 =>
  (gev (some (x3, false)) .id [x1]).bind fun x4 =>
  (gev (some (x3, false)) .len [x4]).bind fun x5 =>
  (gev (some (x3, false)) (.icm .gtr) [x5, (.int 48)]).bind fun x6 =>
  (gev none .pick [x3, (.bool true), x6]).bind fun x7 =>
  some (0, [x7])
theorem eq220 {G : Told} {fuel : Nat} (x0 x1 : D) : run G fuel T220 [x0, x1] = S220 G fuel x0 x1 := by
  rw [run_eq]; kernel_rfl

def T221 : T :=
(.op none (.icm .leq) [(.v 2), (.c (.int 1))] <|
(.op (some ((.v 3), false)) .id [(.v 1)] <|
(.op (some ((.v 3), false)) .id [(.v 0)] <|
(.op (some ((.v 3), false)) .len [(.v 5)] <|
(.op (some ((.v 3), false)) (.icm .geq) [(.v 4), (.v 6)] <|
(.op none .pick [(.v 3), (.c (.bool true)), (.v 7)] <|
(.ite (.v 8)
  (.out 0 [(.c (.int 0))])
  (.op none .idx [(.v 0), (.v 1)] <|
  (.op none (.i2i .i64) [(.v 9)] <|
  (.op none (.idv .rem .i64) [(.v 10), (.v 2)] <|
  (.out 0 [(.v 11)])))))))))))
def S221 (_G : Told) (_fuel : Nat) (x0 x1 x2 : D) : Option (Nat × List D) :=
  (gev none (.icm .leq) [x2, (.int 1)]).bind fun x3 =>
  (gev (some (x3, false)) .id [x1]).bind fun x4 =>
  (gev (some (x3, false)) .id [x0]).bind fun x5 =>
  (gev (some (x3, false)) .len [x5]).bind fun x6 =>
  (gev (some (x3, false)) (.icm .geq) [x4, x6]).bind fun x7 =>
  (gev none .pick [x3, (.bool true), x7]).bind fun x8 =>
  tif x8 (
    some (0, [(.int 0)])) (
    (gev none .idx [x0, x1]).bind fun x9 =>
    (gev none (.i2i .i64) [x9]).bind fun x10 =>
    (gev none (.idv .rem .i64) [x10, x2]).bind fun x11 =>
    some (0, [x11]))
theorem eq221 {G : Told} {fuel : Nat} (x0 x1 x2 : D) : run G fuel T221 [x0, x1, x2] = S221 G fuel x0 x1 x2 := by
  rw [run_eq]; kernel_rfl

def T234 : T :=
(.call none 220 [(.v 0), (.v 1)] 1 <|
(.ite (.v 2)
  (.out 0 [(.c (.bool true))])
  (.call none 221 [(.v 0), (.c (.int 0)), (.c (.int 64))] 1 <|
  (.op none (.iar .add .i64) [(.c (.int 1)), (.v 3)] <|
  (.op none (.i2f .f32) [(.v 4)] <|
  (.op none (.far .quo .f32) [(.v 5), (.c (.flt 1090519040))] <|
  (.call none 230 [(.v 6)] 2 <|
  (.call none 221 [(.v 0), (.c (.int 1)), (.c (.int 8))] 1 <|
  (.op none (.iar .add .i64) [(.c (.int 1)), (.v 9)] <|
  (.op none (.i2f .f32) [(.v 10)] <|
  (.op none (.far .quo .f32) [(.v 11), (.c (.flt 1082130432))] <|
  (.call none 221 [(.v 0), (.c (.int 2)), (.c (.int 8))] 1 <|
  (.op none (.iar .add .i64) [(.c (.int 1)), (.v 13)] <|
  (.op none (.i2f .f32) [(.v 14)] <|
  (.op none (.far .quo .f32) [(.v 15), (.c (.flt 1082130432))] <|
  (.call none 221 [(.v 0), (.c (.int 3)), (.c (.int 8))] 1 <|
  (.op none (.iar .add .i64) [(.c (.int 1)), (.v 17)] <|
  (.op none (.i2f .f32) [(.v 18)] <|
  (.op none (.far .quo .f32) [(.v 19), (.c (.flt 1090519040))] <|
  (.call none 8 [(.v 12), (.v 16)] 2 <|
  (.call none 5 [(.v 20), (.v 12)] 2 <|
  (.call none 5 [(.v 20), (.v 16)] 2 <|
  (.op none (.f2f .f32 .f64) [(.v 7)] <|
  (.op none .bnot [(.v 8)] <|
  (.op (some ((.v 28), false)) .id [(.v 24)] <|
  (.op (some ((.v 28), false)) .bnot [(.v 29)] <|
  (.op none .pick [(.v 28), (.c (.bool true)), (.v 30)] <|
  (.op (some ((.v 31), false)) .id [(.v 26)] <|
  (.op (some ((.v 31), false)) .bnot [(.v 32)] <|
  (.op none .pick [(.v 31), (.c (.bool true)), (.v 33)] <|
  (.op (some ((.v 34), false)) .id [(.v 22)] <|
  (.op (some ((.v 34), false)) .id [(.v 12)] <|
  (.op (some ((.v 34), false)) .id [(.v 16)] <|
  (.op (some ((.v 34), false)) (.fcm .neq .f32) [(.v 36), (.v 37)] <|
  (.op (some ((.v 34), false)) .bne [(.v 35), (.v 38)] <|
  (.op none .pick [(.v 34), (.c (.bool true)), (.v 39)] <|
  (.op (some ((.v 40), false)) .id [(.v 27)] <|
  (.op (some ((.v 40), false)) (.far .mul .f64) [(.c (.flt 4616402176923351200)), (.v 41)] <|
  (.op (some ((.v 40), false)) .id [(.v 27)] <|
  (.op (some ((.v 40), false)) (.far .mul .f64) [(.v 42), (.v 43)] <|
  (.op (some ((.v 40), false)) .id [(.v 27)] <|
  (.op (some ((.v 40), false)) (.far .mul .f64) [(.v 44), (.v 45)] <|
  (.op (some ((.v 40), false)) .id [(.v 6)] <|
  (.op (some ((.v 40), false)) (.f2f .f32 .f64) [(.v 47)] <|
  (.call (some ((.v 40), false)) 231 [(.v 46), (.v 48)] 1 <|
  (.op (some ((.v 40), false)) .id [(.v 6)] <|
  (.op (some ((.v 40), false)) (.f2f .f32 .f64) [(.v 50)] <|
  (.op (some ((.v 40), false)) (.far .mul .f64) [(.c (.flt 4562254508917369340)), (.v 51)] <|
  (.op (some ((.v 40), false)) (.fcm .gtr .f64) [(.v 49), (.v 52)] <|
  (.op none .pick [(.v 40), (.c (.bool true)), (.v 53)] <|
  (.ite (.v 54)
    (.out 0 [(.c (.bool false))])
    (.op none .bnot [(.v 22)] <|
    (.ite (.v 55)
      (.out 0 [(.c (.bool true))])
      (.call none 5 [(.v 20), (.v 21)] 2 <|
      (.call none 232 [(.v 12)] 1 <|
      (.call none 233 [(.v 12)] 1 <|
      (.op (some ((.v 57), true)) .id [(.v 23)] <|
      (.op (some ((.v 57), true)) (.f2f .f32 .f64) [(.v 60)] <|
      (.op (some ((.v 57), true)) .id [(.v 25)] <|
      (.op (some ((.v 57), true)) (.f2f .f32 .f64) [(.v 62)] <|
      (.call (some ((.v 57), true)) 231 [(.v 61), (.v 63)] 1 <|
      (.op (some ((.v 57), true)) .id [(.v 56)] <|
      (.op (some ((.v 57), true)) (.f2f .f32 .f64) [(.v 65)] <|
      (.call (some ((.v 57), true)) 231 [(.v 64), (.v 66)] 1 <|
      (.op (some ((.v 57), true)) .id [(.v 56)] <|
      (.op (some ((.v 57), true)) (.f2f .f32 .f64) [(.v 68)] <|
      (.op (some ((.v 57), true)) (.far .add .f64) [(.c (.flt 4607182418800017408)), (.v 69)] <|
      (.op (some ((.v 57), true)) (.far .mul .f64) [(.c (.flt 4562254508917369340)), (.v 70)] <|
      (.op (some ((.v 57), true)) (.fcm .lss .f64) [(.v 67), (.v 71)] <|
      (.op none .pick [(.v 57), (.v 72), (.c (.bool false))] <|
      (.op (some ((.v 73), true)) .id [(.v 58)] <|
      (.op (some ((.v 73), true)) (.f2f .f32 .f64) [(.v 74)] <|
      (.op (some ((.v 73), true)) .id [(.v 58)] <|
      (.op (some ((.v 73), true)) (.f2f .f32 .f64) [(.v 76)] <|
      (.op (some ((.v 73), true)) (.far .mul .f64) [(.v 75), (.v 77)] <|
      (.op (some ((.v 73), true)) .id [(.v 59)] <|
      (.op (some ((.v 73), true)) (.f2f .f32 .f64) [(.v 79)] <|
      (.op (some ((.v 73), true)) .id [(.v 59)] <|
      (.op (some ((.v 73), true)) (.f2f .f32 .f64) [(.v 81)] <|
      (.op (some ((.v 73), true)) (.far .mul .f64) [(.v 80), (.v 82)] <|
      (.op (some ((.v 73), true)) (.far .sub .f64) [(.v 78), (.v 83)] <|
      (.call (some ((.v 73), true)) 231 [(.v 84), (.c (.flt 4607182418800017408))] 1 <|
      (.op (some ((.v 73), true)) (.fcm .lss .f64) [(.v 85), (.c (.flt 4562254508917369340))] <|
      (.op none .pick [(.v 73), (.v 86), (.c (.bool false))] <|
      (.out 0 [(.v 87)])))))))))))))))))))))))))))))))))))))))))))))))))))))))))))))))))))))))))))))))))))))
def S234 (G : Told) (_fuel : Nat) (x0 x1 : D) : Option (Nat × List D) :=
  (gcall G none 220 [x0, x1] 1).bind fun e2 =>
  tif (e2.getD 0 .undef) (
    some (0, [(.bool true)])) (
    (gcall G none 221 [x0, (.int 0), (.int 64)] 1).bind fun e3 =>
    (gev none (.iar .add .i64) [(.int 1), (e3.getD 0 .undef)]).bind fun x4 =>
    (gev none (.i2f .f32) [x4]).bind fun x5 =>
    (gev none (.far .quo .f32) [x5, (.flt 1090519040)]).bind fun x6 =>
    (gcall G none 230 [x6] 2).bind fun e7 =>
    (gcall G none 221 [x0, (.int 1), (.int 8)] 1).bind fun e9 =>
    (gev none (.iar .add .i64) [(.int 1), (e9.getD 0 .undef)]).bind fun x10 =>
    (gev none (.i2f .f32) [x10]).bind fun x11 =>
    (gev none (.far .quo .f32) [x11, (.flt 1082130432)]).bind fun x12 =>
    (gcall G none 221 [x0, (.int 2), (.int 8)] 1).bind fun e13 =>
    (gev none (.iar .add .i64) [(.int 1), (e13.getD 0 .undef)]).bind fun x14 =>
    (gev none (.i2f .f32) [x14]).bind fun x15 =>
    (gev none (.far .quo .f32) [x15, (.flt 1082130432)]).bind fun x16 =>
    (gcall G none 221 [x0, (.int 3), (.int 8)] 1).bind fun e17 =>
    (gev none (.iar .add .i64) [(.int 1), (e17.getD 0 .undef)]).bind fun x18 =>
    (gev none (.i2f .f32) [x18]).bind fun x19 =>
    (gev none (.far .quo .f32) [x19, (.flt 1090519040)]).bind fun x20 =>
    (gcall G none 8 [x12, x16] 2).bind fun e21 =>
    (gcall G none 5 [x20, x12] 2).bind fun e23 =>
    (gcall G none 5 [x20, x16] 2).bind fun e25 =>
    (gev none (.f2f .f32 .f64) [(e7.getD 0 .undef)]).bind fun x27 =>
    (gev none .bnot [(e7.getD 1 .undef)]).bind fun x28 =>
    (gev (some (x28, false)) .id [(e23.getD 1 .undef)]).bind fun x29 =>
    (gev (some (x28, false)) .bnot [x29]).bind fun x30 =>
    (gev none .pick [x28, (.bool true), x30]).bind fun x31 =>
    (gev (some (x31, false)) .id [(e25.getD 1 .undef)]).bind fun x32 =>
    (gev (some (x31, false)) .bnot [x32]).bind fun x33 =>
    (gev none .pick [x31, (.bool true), x33]).bind fun x34 =>
    (gev (some (x34, false)) .id [(e21.getD 1 .undef)]).bind fun x35 =>
    (gev (some (x34, false)) .id [x12]).bind fun x36 =>
    (gev (some (x34, false)) .id [x16]).bind fun x37 =>
    (gev (some (x34, false)) (.fcm .neq .f32) [x36, x37]).bind fun x38 =>
    (gev (some (x34, false)) .bne [x35, x38]).bind fun x39 =>
    (gev none .pick [x34, (.bool true), x39]).bind fun x40 =>
    (gev (some (x40, false)) .id [x27]).bind fun x41 =>
    (gev (some (x40, false)) (.far .mul .f64) [(.flt 4616402176923351200), x41]).bind fun x42 =>
    (gev (some (x40, false)) .id [x27]).bind fun x43 =>
    (gev (some (x40, false)) (.far .mul .f64) [x42, x43]).bind fun x44 =>
    (gev (some (x40, false)) .id [x27]).bind fun x45 =>
    (gev (some (x40, false)) (.far .mul .f64) [x44, x45]).bind fun x46 =>
    (gev (some (x40, false)) .id [x6]).bind fun x47 =>
    (gev (some (x40, false)) (.f2f .f32 .f64) [x47]).bind fun x48 =>
    (gcall G (some (x40, false)) 231 [x46, x48] 1).bind fun e49 =>
    (gev (some (x40, false)) .id [x6]).bind fun x50 =>
    (gev (some (x40, false)) (.f2f .f32 .f64) [x50]).bind fun x51 =>
    (gev (some (x40, false)) (.far .mul .f64) [(.flt 4562254508917369340), x51]).bind fun x52 =>
    (gev (some (x40, false)) (.fcm .gtr .f64) [(e49.getD 0 .undef), x52]).bind fun x53 =>
    (gev none .pick [x40, (.bool true), x53]).bind fun x54 =>
    tif x54 (
      some (0, [(.bool false)])) (
      (gev none .bnot [(e21.getD 1 .undef)]).bind fun x55 =>
      tif x55 (
        some (0, [(.bool true)])) (
        (gcall G none 5 [x20, (e21.getD 0 .undef)] 2).bind fun e56 =>
        (gcall G none 232 [x12] 1).bind fun e58 =>
        (gcall G none 233 [x12] 1).bind fun e59 =>
        (gev (some ((e56.getD 1 .undef), true)) .id [(e23.getD 0 .undef)]).bind fun x60 =>
        (gev (some ((e56.getD 1 .undef), true)) (.f2f .f32 .f64) [x60]).bind fun x61 =>
        (gev (some ((e56.getD 1 .undef), true)) .id [(e25.getD 0 .undef)]).bind fun x62 =>
        (gev (some ((e56.getD 1 .undef), true)) (.f2f .f32 .f64) [x62]).bind fun x63 =>
        (gcall G (some ((e56.getD 1 .undef), true)) 231 [x61, x63] 1).bind fun e64 =>
        (gev (some ((e56.getD 1 .undef), true)) .id [(e56.getD 0 .undef)]).bind fun x65 =>
        (gev (some ((e56.getD 1 .undef), true)) (.f2f .f32 .f64) [x65]).bind fun x66 =>
        (gcall G (some ((e56.getD 1 .undef), true)) 231 [(e64.getD 0 .undef), x66] 1).bind fun e67 =>
        (gev (some ((e56.getD 1 .undef), true)) .id [(e56.getD 0 .undef)]).bind fun x68 =>
        (gev (some ((e56.getD 1 .undef), true)) (.f2f .f32 .f64) [x68]).bind fun x69 =>
        (gev (some ((e56.getD 1 .undef), true)) (.far .add .f64) [(.flt 4607182418800017408), x69]).bind fun x70 =>
        (gev (some ((e56.getD 1 .undef), true)) (.far .mul .f64) [(.flt 4562254508917369340), x70]).bind fun x71 =>
        (gev (some ((e56.getD 1 .undef), true)) (.fcm .lss .f64) [(e67.getD 0 .undef), x71]).bind fun x72 =>
        (gev none .pick [(e56.getD 1 .undef), x72, (.bool false)]).bind fun x73 =>
        (gev (some (x73, true)) .id [(e58.getD 0 .undef)]).bind fun x74 =>
        (gev (some (x73, true)) (.f2f .f32 .f64) [x74]).bind fun x75 =>
        (gev (some (x73, true)) .id [(e58.getD 0 .undef)]).bind fun x76 =>
        (gev (some (x73, true)) (.f2f .f32 .f64) [x76]).bind fun x77 =>
        (gev (some (x73, true)) (.far .mul .f64) [x75, x77]).bind fun x78 =>
        (gev (some (x73, true)) .id [(e59.getD 0 .undef)]).bind fun x79 =>
        (gev (some (x73, true)) (.f2f .f32 .f64) [x79]).bind fun x80 =>
        (gev (some (x73, true)) .id [(e59.getD 0 .undef)]).bind fun x81 =>
        (gev (some (x73, true)) (.f2f .f32 .f64) [x81]).bind fun x82 =>
        (gev (some (x73, true)) (.far .mul .f64) [x80, x82]).bind fun x83 =>
        (gev (some (x73, true)) (.far .sub .f64) [x78, x83]).bind fun x84 =>
        (gcall G (some (x73, true)) 231 [x84, (.flt 4607182418800017408)] 1).bind fun e85 =>
        (gev (some (x73, true)) (.fcm .lss .f64) [(e85.getD 0 .undef), (.flt 4562254508917369340)]).bind fun x86 =>
        (gev none .pick [x73, x86, (.bool false)]).bind fun x87 =>
        some (0, [x87]))))
theorem eq234 {G : Told} {fuel : Nat} (x0 x1 : D) : run G fuel T234 [x0, x1] = S234 G fuel x0 x1 := by
  rw [run_eq]; kernel_rfl

attribute [local irreducible] tif tjoin IntKind.wrap feq fadd fmul fsub fdiv fgt flt i2f wide il atP volP sizeP filmP cubeP F230 F231 F232 F233 F5 F8

set_option maxHeartbeats 4000000 in
theorem run220 {G : Told} : ∀ ds rs, F220 ds = some rs → ∃ fuel, run G fuel T220 ds = some (0, rs) := by
  intro ds rs h
  unfold F220 at h
  split at h
  case h_2 => cases h
  rename_i a b
  obtain ⟨l, ha, h⟩ := Option.bind_eq_some_iff.1 h
  obtain ⟨m, hb, h⟩ := Option.bind_eq_some_iff.1 h
  rw [dI_inv ha, dI_inv hb]
  simp only [Option.some.injEq] at h
  subst h
  refine ⟨0, ?_⟩
  rw [eq220]
  unfold S220
  have hn := len_il (l := l)
  have hm := len_il (l := m)
  have e : decide (l.length > 48) = decide ((l.length : Int) > 48) := by
    rw [decide_eq_decide]
    omega
  have e2 : decide (m.length > 48) = decide ((m.length : Int) > 48) := by
    rw [decide_eq_decide]
    omega
  rw [e, e2]
  cases h1 : decide ((l.length : Int) > 48)
  · repeat' first
      | with_reducible refine st_ift ?_
      | with_reducible refine st_iff ?_
      | ((with_reducible apply st_ift3); exact rfl)
      | ((with_reducible apply st_iff3); exact rfl)
      | ((with_reducible apply st_some); exact hn)
      | ((with_reducible apply st_some); exact hm)
      | ((with_reducible apply st_callt); assumption; exact rfl; exact rfl; assumption)
      | ((with_reducible apply st_callf); assumption; exact rfl; exact rfl; assumption)
      | ((with_reducible apply st_call); assumption; exact rfl; exact rfl; exact rfl)
      | ((with_reducible apply st_wide); exact rfl; exact rfl)
      | ((with_reducible apply st_skip); exact rfl)
      | ((with_reducible apply st_t); exact rfl; exact rfl)
      | ((with_reducible apply st_f); exact rfl; exact rfl)
      | ((with_reducible apply st_t); exact rfl; assumption)
      | ((with_reducible apply st_f); exact rfl; assumption)
      | ((with_reducible apply st_some); exact rfl)
      | exact rfl
  · repeat' first
      | with_reducible refine st_ift ?_
      | with_reducible refine st_iff ?_
      | ((with_reducible apply st_ift3); exact rfl)
      | ((with_reducible apply st_iff3); exact rfl)
      | ((with_reducible apply st_some); exact hn)
      | ((with_reducible apply st_some); exact hm)
      | ((with_reducible apply st_callt); assumption; exact rfl; exact rfl; assumption)
      | ((with_reducible apply st_callf); assumption; exact rfl; exact rfl; assumption)
      | ((with_reducible apply st_call); assumption; exact rfl; exact rfl; exact rfl)
      | ((with_reducible apply st_wide); exact rfl; exact rfl)
      | ((with_reducible apply st_skip); exact rfl)
      | ((with_reducible apply st_t); exact rfl; exact rfl)
      | ((with_reducible apply st_f); exact rfl; exact rfl)
      | ((with_reducible apply st_t); exact rfl; assumption)
      | ((with_reducible apply st_f); exact rfl; assumption)
      | ((with_reducible apply st_some); exact rfl)
      | exact rfl
set_option maxHeartbeats 4000000 in
theorem run221 {G : Told} : ∀ ds rs, F221 ds = some rs → ∃ fuel, run G fuel T221 ds = some (0, rs) := by
  intro ds rs h
  unfold F221 at h
  split at h
  case h_2 => cases h
  rename_i a k n
  obtain ⟨l, ha, h⟩ := Option.bind_eq_some_iff.1 h
  rw [dI_inv ha]
  split at h
  case isFalse => cases h
  rename_i hc
  obtain ⟨hb, hk, hn2⟩ := hc
  simp only [Option.some.injEq] at h
  subst h
  obtain ⟨k, rfl⟩ : ∃ j : Nat, k = j := ⟨k.toNat, by omega⟩
  obtain ⟨n, rfl⟩ : ∃ j : Nat, n = j := ⟨n.toNat, by omega⟩
  rw [Int.toNat_natCast, Int.toNat_natCast]
  refine ⟨0, ?_⟩
  rw [eq221]
  unfold S221
  have hn := len_il (l := l)
  have d1 : decide ((n : Int) ≤ 1) = false := by simp; omega
  by_cases hkl : l.length ≤ k
  · have d2 : decide ((k : Int) ≥ (l.length : Int)) = true := by simp; omega
    have e : atP l k n = 0 := by
      unfold atP
      rw [if_pos hkl]
    rw [e]
    repeat' first
      | with_reducible refine st_ift ?_
      | with_reducible refine st_iff ?_
      | ((with_reducible apply st_ift3); exact rfl)
      | ((with_reducible apply st_iff3); exact rfl)
      | ((with_reducible apply st_some); exact hn)
      | ((with_reducible apply st_callt); assumption; exact rfl; exact rfl; assumption)
      | ((with_reducible apply st_callf); assumption; exact rfl; exact rfl; assumption)
      | ((with_reducible apply st_call); assumption; exact rfl; exact rfl; exact rfl)
      | ((with_reducible apply st_wide); exact rfl; exact rfl)
      | ((with_reducible apply st_skip); exact rfl)
      | ((with_reducible apply st_t); exact rfl; exact rfl)
      | ((with_reducible apply st_f); exact rfl; exact rfl)
      | ((with_reducible apply st_t); exact rfl; assumption)
      | ((with_reducible apply st_f); exact rfl; assumption)
      | ((with_reducible apply st_some); exact rfl)
      | exact rfl
  · have d2 : decide ((k : Int) ≥ (l.length : Int)) = false := by simp; omega
    have hx := idx_il (l := l) (i := k) (by omega)
    have hr := hb l[k] (List.getElem_mem (by omega))
    have e : ((atP l k n : Nat) : Int) = l[k] % (n : Int) := by
      unfold atP
      rw [if_neg hkl, getD_ltB (by omega)]
      have h1 := Int.emod_nonneg l[k] (show (n : Int) ≠ 0 by omega)
      omega
    rw [e]
    have hw : gev none (.i2i .i64) [.int l[k]] = some (.int l[k]) := by
      have e : gev none (.i2i .i64) [.int l[k]] = some (.int (IntKind.wrap .i64 l[k])) := rfl
      rw [e, wrap_small hr.1 (by omega)]
    have hd : gev none (.idv .rem .i64) [.int l[k], .int n] = some (.int (l[k] % (n : Int))) := by
      have e : gev none (.idv .rem .i64) [.int l[k], .int n] = if (n : Int) = 0 then none else some (.int (l[k].tmod n)) := by
        simp only [gev, gok, if_true, Prim.ev, idiv]
        split <;> rfl
      rw [e, if_neg (by omega), Int.tmod_eq_emod_of_nonneg hr.1]
    repeat' first
      | with_reducible refine st_ift ?_
      | with_reducible refine st_iff ?_
      | ((with_reducible apply st_ift3); exact rfl)
      | ((with_reducible apply st_iff3); exact rfl)
      | ((with_reducible apply st_some); exact hn)
      | ((with_reducible apply st_some); exact hx)
      | ((with_reducible apply st_some); exact hw)
      | ((with_reducible apply st_some); exact hd)
      | ((with_reducible apply st_callt); assumption; exact rfl; exact rfl; assumption)
      | ((with_reducible apply st_callf); assumption; exact rfl; exact rfl; assumption)
      | ((with_reducible apply st_call); assumption; exact rfl; exact rfl; exact rfl)
      | ((with_reducible apply st_wide); exact rfl; exact rfl)
      | ((with_reducible apply st_skip); exact rfl)
      | ((with_reducible apply st_t); exact rfl; exact rfl)
      | ((with_reducible apply st_f); exact rfl; exact rfl)
      | ((with_reducible apply st_t); exact rfl; assumption)
      | ((with_reducible apply st_f); exact rfl; assumption)
      | ((with_reducible apply st_some); exact rfl)
      | exact rfl
set_option maxHeartbeats 4000000 in
theorem run234 {G : Told} (g5 : G 5 = F5) (g8 : G 8 = F8) (g220 : G 220 = F220) (g221 : G 221 = F221) (g230 : G 230 = F230) (g231 : G 231 = F231) (g232 : G 232 = F232) (g233 : G 233 = F233) : ∀ ds rs, F234 ds = some rs → ∃ fuel, run G fuel T234 ds = some (0, rs) := by
  intro ds rs h
  unfold F234 at h
  split at h
  case h_2 => cases h
  rename_i x y
  obtain ⟨l, ha, h⟩ := Option.bind_eq_some_iff.1 h
  obtain ⟨m, hb, h⟩ := Option.bind_eq_some_iff.1 h
  rw [dI_inv ha, dI_inv hb]
  split at h
  case isFalse => cases h
  rename_i hc
  simp only [Option.some.injEq] at h
  subst h
  clear ha hb
  refine ⟨0, ?_⟩
  rw [eq234]
  unfold S234
  have hL := F220_m (l := l) (m := m)
  cases hlong : (decide (l.length > 48) || decide (m.length > 48))
  case true =>
    rw [hlong] at hL
    repeat' first
      | with_reducible refine st_ift ?_
      | with_reducible refine st_iff ?_
      | ((with_reducible apply st_ift3); exact rfl)
      | ((with_reducible apply st_iff3); exact rfl)
      | ((with_reducible apply st_call); exact g220; exact rfl; exact hL; exact rfl)
      | ((with_reducible apply st_callt); assumption; exact rfl; exact rfl; assumption)
      | ((with_reducible apply st_callf); assumption; exact rfl; exact rfl; assumption)
      | ((with_reducible apply st_call); assumption; exact rfl; exact rfl; exact rfl)
      | ((with_reducible apply st_wide); exact rfl; exact rfl)
      | ((with_reducible apply st_skip); exact rfl)
      | ((with_reducible apply st_t); exact rfl; exact rfl)
      | ((with_reducible apply st_f); exact rfl; exact rfl)
      | ((with_reducible apply st_t); exact rfl; assumption)
      | ((with_reducible apply st_f); exact rfl; assumption)
      | ((with_reducible apply st_some); exact rfl)
      | exact rfl
  rw [hlong] at hL
  have a0 := F221_m (l := l) (k := 0) (n := 64) hc (by omega)
  have a1 := F221_m (l := l) (k := 1) (n := 8) hc (by omega)
  have a2 := F221_m (l := l) (k := 2) (n := 8) hc (by omega)
  have a3 := F221_m (l := l) (k := 3) (n := 8) hc (by omega)
  have b0 := atP_lt (l := l) (k := 0) (n := 64) (by omega)
  have b1 := atP_lt (l := l) (k := 1) (n := 8) (by omega)
  have b2 := atP_lt (l := l) (k := 2) (n := 8) (by omega)
  have b3 := atP_lt (l := l) (k := 3) (n := 8) (by omega)
  generalize atP l 0 64 = i at a0 b0
  generalize atP l 1 8 = a at a1 b1
  generalize atP l 2 8 = b at a2 b2
  generalize atP l 3 8 = f at a3 b3
  clear hlong hc
  generalize il l = xl at *
  generalize il m = xm at *
  have wadd : ∀ j : Nat, j < 1000 → gev none (.iar .add .i64) [.int 1, .int (j : Int)] = some (.int (1 + (j : Int))) := fun j hj => by
    have e : gev none (.iar .add .i64) [.int 1, .int (j : Int)] = some (.int (IntKind.wrap .i64 (1 + (j : Int)))) := rfl
    rw [e, wrap_small (by omega) (by omega)]
  have w0 := wadd i (by omega)
  have w1 := wadd a (by omega)
  have w2 := wadd b (by omega)
  have w3 := wadd f (by omega)
  have q0 : gev none (.far .quo .f32) [.flt (i2f .f32 (1 + (i : Int))), .flt 1090519040] = some (.flt (volP i)) := by unfold volP; rfl
  have q1 : gev none (.far .quo .f32) [.flt (i2f .f32 (1 + (a : Int))), .flt 1082130432] = some (.flt (sizeP a)) := by unfold sizeP; rfl
  have q2 : gev none (.far .quo .f32) [.flt (i2f .f32 (1 + (b : Int))), .flt 1082130432] = some (.flt (sizeP b)) := by unfold sizeP; rfl
  have q3 : gev none (.far .quo .f32) [.flt (i2f .f32 (1 + (f : Int))), .flt 1090519040] = some (.flt (filmP f)) := by unfold filmP; rfl
  have h1 := ok1_all i b0
  have h2 := List.all_eq_true.1 (ok2_all a b b1 b2) f (List.mem_range.2 b3)
  have h3 := ok3_all a b1
  clear b0 b1 b2 b3 wadd
  unfold ok1 at h1
  unfold ok2 at h2
  unfold ok3 at h3
  generalize volP i = vol at *
  generalize hA : sizeP a = A at *
  generalize hB : sizeP b = B at *
  clear hA hB
  generalize filmP f = fm at *
  split at h1 <;> try cases h1
  rename_i r e230
  split at h1 <;> try cases h1
  rename_i gp e231
  unfold cubeP at e231
  have c1 : fgt .f64 gp (fmul .f64 4562254508917369340 (wide vol)) = false := by simpa using h1
  clear h1
  split at h2 <;> try cases h2
  rename_i w t p q e8 e5a e5b
  simp only [Bool.and_eq_true, beq_iff_eq] at h2
  obtain ⟨ht, h2⟩ := h2
  have c2 : (!(t == !feq .f32 A B)) = false := by rw [ht]; simp
  clear ht
  cases t
  case false =>
    repeat' first
      | with_reducible refine st_ift ?_
      | with_reducible refine st_iff ?_
      | ((with_reducible apply st_ift3); exact rfl)
      | ((with_reducible apply st_iff3); exact rfl)
      | ((with_reducible apply st_call); exact g220; exact rfl; exact hL; exact rfl)
      | ((with_reducible apply st_call); exact g221; exact rfl; exact a0; exact rfl)
      | ((with_reducible apply st_call); exact g221; exact rfl; exact a1; exact rfl)
      | ((with_reducible apply st_call); exact g221; exact rfl; exact a2; exact rfl)
      | ((with_reducible apply st_call); exact g221; exact rfl; exact a3; exact rfl)
      | ((with_reducible apply st_call); exact g230; exact rfl; exact e230; exact rfl)
      | ((with_reducible apply st_call); exact g231; exact rfl; exact e231; exact rfl)
      | ((with_reducible apply st_call); exact g8; exact rfl; exact e8; exact rfl)
      | ((with_reducible apply st_call); exact g5; exact rfl; exact e5a; exact rfl)
      | ((with_reducible apply st_call); exact g5; exact rfl; exact e5b; exact rfl)
      | ((with_reducible apply st_some); exact w0)
      | ((with_reducible apply st_some); exact w1)
      | ((with_reducible apply st_some); exact w2)
      | ((with_reducible apply st_some); exact w3)
      | ((with_reducible apply st_some); exact q0)
      | ((with_reducible apply st_some); exact q1)
      | ((with_reducible apply st_some); exact q2)
      | ((with_reducible apply st_some); exact q3)
      | ((with_reducible apply st_callt); assumption; exact rfl; exact rfl; assumption)
      | ((with_reducible apply st_callf); assumption; exact rfl; exact rfl; assumption)
      | ((with_reducible apply st_call); assumption; exact rfl; exact rfl; exact rfl)
      | ((with_reducible apply st_wide); exact rfl; exact rfl)
      | ((with_reducible apply st_skip); exact rfl)
      | ((with_reducible apply st_t); exact rfl; exact rfl)
      | ((with_reducible apply st_f); exact rfl; exact rfl)
      | ((with_reducible apply st_t); exact rfl; assumption)
      | ((with_reducible apply st_f); exact rfl; assumption)
      | ((with_reducible apply st_some); exact rfl)
      | exact rfl
  simp only [Bool.not_true, Bool.false_or] at h2
  split at h2 <;> try cases h2
  rename_i v e5c
  split at h2 <;> try cases h2
  rename_i g1 k1
  split at h2 <;> try cases h2
  rename_i g2 k2
  split at h3 <;> try cases h3
  rename_i c s e232 e233
  split at h3 <;> try cases h3
  rename_i g3 k3
  repeat' first
    | with_reducible refine st_ift ?_
    | with_reducible refine st_iff ?_
    | ((with_reducible apply st_ift3); exact rfl)
    | ((with_reducible apply st_iff3); exact rfl)
    | ((with_reducible apply st_call); exact g220; exact rfl; exact hL; exact rfl)
    | ((with_reducible apply st_call); exact g221; exact rfl; exact a0; exact rfl)
    | ((with_reducible apply st_call); exact g221; exact rfl; exact a1; exact rfl)
    | ((with_reducible apply st_call); exact g221; exact rfl; exact a2; exact rfl)
    | ((with_reducible apply st_call); exact g221; exact rfl; exact a3; exact rfl)
    | ((with_reducible apply st_call); exact g230; exact rfl; exact e230; exact rfl)
    | ((with_reducible apply st_call); exact g231; exact rfl; exact e231; exact rfl)
    | ((with_reducible apply st_call); exact g8; exact rfl; exact e8; exact rfl)
    | ((with_reducible apply st_call); exact g5; exact rfl; exact e5a; exact rfl)
    | ((with_reducible apply st_call); exact g5; exact rfl; exact e5b; exact rfl)
    | ((with_reducible apply st_some); exact w0)
    | ((with_reducible apply st_some); exact w1)
    | ((with_reducible apply st_some); exact w2)
    | ((with_reducible apply st_some); exact w3)
    | ((with_reducible apply st_some); exact q0)
    | ((with_reducible apply st_some); exact q1)
    | ((with_reducible apply st_some); exact q2)
    | ((with_reducible apply st_some); exact q3)
    | ((with_reducible apply st_call); exact g5; exact rfl; exact e5c; exact rfl)
    | ((with_reducible apply st_call); exact g232; exact rfl; exact e232; exact rfl)
    | ((with_reducible apply st_call); exact g233; exact rfl; exact e233; exact rfl)
    | ((with_reducible apply st_call); exact g231; exact rfl; exact k1; exact rfl)
    | ((with_reducible apply st_call); exact g231; exact rfl; exact k2; exact rfl)
    | ((with_reducible apply st_call); exact g231; exact rfl; exact k3; exact rfl)
    | ((with_reducible apply st_callt); assumption; exact rfl; exact rfl; assumption)
    | ((with_reducible apply st_callf); assumption; exact rfl; exact rfl; assumption)
    | ((with_reducible apply st_call); assumption; exact rfl; exact rfl; exact rfl)
    | ((with_reducible apply st_wide); exact rfl; exact rfl)
    | ((with_reducible apply st_skip); exact rfl)
    | ((with_reducible apply st_t); exact rfl; exact rfl)
    | ((with_reducible apply st_f); exact rfl; exact rfl)
    | ((with_reducible apply st_t); exact rfl; assumption)
    | ((with_reducible apply st_f); exact rfl; assumption)
    | ((with_reducible apply st_some); exact rfl)
    | exact rfl

/-! ### Arguments: two lists of bytes -/
def bytesB (P : Program) (t : TypeId) : Bool :=
  match P.underlying t with
  | some (.slice e) => (match P.underlying e with | some (.int .u8) => true | _ => false) && P.cellsOf e == 1
  | _ => false
section
variable {HH : Type} {enc : TypeId × Value → HH} {P : Program} {W : World}
theorem trod_byte {base : Nat} {sp : Nat → Bool} {hd : Bool} {fuel : Nat} {t : TypeId} {cs : List Value} {x : DataW HH × List MemPlace} (hu : P.underlying t = some (.int .u8)) (h : DataW.trod enc P W base sp hd fuel t cs = some x) :
    ∃ n, cs = [.int .u8 n] ∧ 0 ≤ n ∧ n ≤ 255 := by
  cases fuel with
  | zero => cases h
  | succ fuel =>
    unfold DataW.trod at h
    rw [hu] at h
    split at h <;> first | (rename_i heq; cases heq; done) | (cases h; done) | skip
    all_goals
      rename_i heq
      cases heq
      split at h
      · rename_i hc
        obtain ⟨rfl, hw⟩ := hc
        refine ⟨_, rfl, ?_⟩
        simp [Lit.wf, IntKind.min, IntKind.max, IntKind.signed, IntKind.bits] at hw
        omega
      · cases h
theorem trod_bytes {base : Nat} {sp : Nat → Bool} {hd : Bool} {fuel : Nat} {t : TypeId} {cs : List Value} {x : DataW HH × List MemPlace} (hb : bytesB P t = true) (h : DataW.trod enc P W base sp hd fuel t cs = some x) :
    ∃ v l, cs = [v] ∧ RdC W (fun b => b < W.heap.size) (.s1 ⟨false, [.int .u8]⟩) v (il l) ∧ ∀ x ∈ l, 0 ≤ x ∧ x ≤ 255 := by
  unfold bytesB at hb
  split at hb
  · rename_i e hu
    simp only [Bool.and_eq_true, beq_iff_eq] at hb
    obtain ⟨he, hk⟩ := hb
    split at he
    · rename_i hue
      obtain ⟨v, d, rfl, ⟨ls, hl, hr⟩, _⟩ := trod_sl (Q := fun (t : BT) v d => RdB t v d ∧ ∃ n : Int, d = .int n ∧ 0 ≤ n ∧ n ≤ 255) (bts := [BT.int .u8]) (ag := false) hu (fun h => by
        obtain ⟨n, rfl, h0, h1⟩ := trod_byte hue h
        exact ⟨[.int n], ⟨⟨n, rfl, rfl⟩, n, rfl, h0, h1⟩, trivial⟩) (by rw [hk]; rfl) (by simp) h
      have hw : ∃ l : List Int, ls.map (unflat false) = l.map D.int ∧ ∀ x ∈ l, 0 ≤ x ∧ x ≤ 255 := by
        have key : ∀ {ls : List (List D)} {xs : List Value}, RdRow (fun (t : BT) v d => RdB t v d ∧ ∃ n : Int, d = .int n ∧ 0 ≤ n ∧ n ≤ 255) [BT.int .u8] xs ls → ∃ l : List Int, ls.map (unflat false) = l.map D.int ∧ ∀ x ∈ l, 0 ≤ x ∧ x ≤ 255 := by
          intro ls
          induction ls with
          | nil => intro xs _; exact ⟨[], rfl, by simp⟩
          | cons l0 ls ih =>
            intro xs ⟨c, r, _, h1, h2⟩
            obtain ⟨l, e, hx⟩ := ih h2
            obtain ⟨_, hd⟩ := h1.length
            obtain ⟨_, d, _, e1, _, n, hn, h0, h1⟩ := h1.get (j := 0) rfl
            refine ⟨n :: l, ?_, ?_⟩
            · rw [List.map_cons, e, List.map_cons]
              congr 1
              simp only [unflat]
              rw [List.headD_eq_head?_getD, List.head?_eq_getElem?, e1, hn]
              rfl
            · intro x hm
              rcases List.mem_cons.1 hm with rfl | hm
              · exact ⟨h0, h1⟩
              · exact hx x hm
        rcases hr with ⟨_, rfl⟩ | ⟨_, _, _, xs, _, _, _, _, hr⟩
        · exact ⟨[], rfl, by simp⟩
        · exact key hr
      obtain ⟨l, e, hx⟩ := hw
      have e2 : d = il l := by rw [hl, e]; unfold il; rfl
      refine ⟨v, l, rfl, ?_, hx⟩
      rw [← e2]
      exact ⟨ls, hl, hr.imp id fun ⟨b, off, cap, xs, g1, g2, g3, g4, g5⟩ => ⟨b, off, cap, xs, g1, g2, g3, g4, g5.mono fun _ _ _ h => h.1⟩⟩
    · cases he
  · cases hb
theorem args_bytes {r : Reach} {b0 : Nat} {base : Nat} {sp : Nat → Bool} {hd : Bool} {t u : TypeId} {vs : List Value} {ds : List (DataW HH)} {p : List MemPlace} (h1 : bytesB P t = true) (h2 : bytesB P u = true)
    (hc1 : cellB P t (.s1 ⟨false, [.int .u8]⟩) = true) (hc2 : cellB P u (.s1 ⟨false, [.int .u8]⟩) = true)
    (hA : DataW.TrodAll enc P W base sp hd [t, u] vs ds p) (hv : ∀ (j : Nat) t' v, [t, u][j]? = some t' → vs[j]? = some v → Value.okWide P W r b0 t' v) :
    ∃ l m : List Int, ArgsR W (fun b => b < W.heap.size) [.val false [.rd (.s1 ⟨false, [.int .u8]⟩)], .val false [.rd (.s1 ⟨false, [.int .u8]⟩)]] vs [il l, il m] [] ∧ (∀ x ∈ l, 0 ≤ x ∧ x ≤ 255) ∧ ds.length = 2 := by
  have key : ∃ v w d e, vs = [v, w] ∧ ds = [d, e] := by
    cases vs with
    | nil => cases ds <;> exact hA.elim
    | cons v vs =>
      cases ds with
      | nil => exact hA.elim
      | cons d ds =>
        obtain ⟨_, _, _, h2', _⟩ := hA
        cases vs with
        | nil => cases ds <;> exact h2'.elim
        | cons w vs =>
          cases ds with
          | nil => exact h2'.elim
          | cons e ds =>
            obtain ⟨_, _, _, h3', _⟩ := h2'
            cases vs with
            | nil =>
              cases ds with
              | nil => exact ⟨v, w, d, e, rfl, rfl⟩
              | cons _ _ => exact h3'.elim
            | cons _ _ => cases ds <;> exact h3'.elim
  obtain ⟨v, w, d, e, rfl, rfl⟩ := key
  obtain ⟨_, _, ⟨fuel, q1⟩, ⟨_, _, ⟨fuel', q2⟩, _, _⟩, _⟩ := hA
  rw [not_agg hc1 (hv 0 t v rfl rfl)] at q1
  rw [not_agg hc2 (hv 1 u w rfl rfl)] at q2
  obtain ⟨v', l, e1, r1, x1⟩ := trod_bytes h1 q1
  obtain ⟨w', m, e2, r2, _⟩ := trod_bytes h2 q2
  simp only [List.cons.injEq, and_true] at e1 e2
  subst e1
  subst e2
  exact ⟨l, m, ⟨[il l], [il m], [], [], rfl, rfl, ⟨il l, [], [], [], rfl, rfl, ⟨rfl, r1⟩, rfl, rfl⟩, [il m], [], [], [], rfl, rfl, ⟨il m, [], [], [], rfl, rfl, ⟨rfl, r2⟩, rfl, rfl⟩, rfl, rfl⟩, x1, rfl⟩
end

def T8b : T :=
(.call none 2 [(.v 0)] 1 <|
(.op none .bnot [(.v 2)] <|
(.op (some ((.v 3), false)) .id [(.v 1)] <|
(.call (some ((.v 3), false)) 2 [(.v 4)] 1 <|
(.op (some ((.v 3), false)) .bnot [(.v 5)] <|
(.op none .pick [(.v 3), (.c (.bool true)), (.v 6)] <|
(.op (some ((.v 7), false)) .id [(.v 0)] <|
(.op (some ((.v 7), false)) .id [(.v 1)] <|
(.op (some ((.v 7), false)) (.fcm .eql .f32) [(.v 8), (.v 9)] <|
(.op none .pick [(.v 7), (.c (.bool true)), (.v 10)] <|
(.ite (.v 11)
  (.out 0 [(.c (.flt 0)), (.c (.bool false))])
  (.op none (.far .sub .f32) [(.v 0), (.v 1)] <|
  (.op none (.fcm .lss .f32) [(.v 12), (.c (.flt 0))] <|
  (.join 1
    (.ite (.v 13)
      (.op none (.fneg .f32) [(.v 12)] <|
      (.out 0 [(.v 14)]))
      (.out 0 [(.v 12)]))
  (.op none (.far .mul .f32) [(.v 0), (.v 1)] <|
  (.op none (.far .quo .f32) [(.v 15), (.v 14)] <|
  (.out 0 [(.v 16), (.c (.bool true))])))))))))))))))))
set_option maxHeartbeats 4000000 in
theorem run8b {G : Told} (g2 : G 2 = F2) : ∀ ds rs, F8 ds = some rs → ∃ fuel, run G fuel T8b ds = some (0, rs) := by
  intro ds rs h
  unfold F8 at h
  split at h <;> simp only [Option.some.injEq, reduceCtorEq] at h
  subst h
  rename_i x y
  refine ⟨0, ?_⟩
  cases h1 : overP x <;> cases h2 : overP y <;> cases h3 : feq .f32 x y <;> cases h4 : Vs.flt .f32 (fsub .f32 x y) 0 <;>
    simp [T8b, run, Guard.ok, evs, Atom.ev, Prim.ev, farith, fcmp, g2, F2, wallP, h1, h2, h3, h4]

end Vs
