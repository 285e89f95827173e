/-
  Laws of the plain functions of films: what the functions compute, and that the texts of the executor compute it.
-/
import Derived.Test.YtbaijndhllhplaaE
namespace Vs
open Go
def finP (x : Nat) : Bool := feq .f32 (fsub .f32 x x) 0
def overP (x : Nat) : Bool := finP x && fgt .f32 x 0
def F1 : List D → Option (List D) | [.flt x] => some [.bool (finP x)] | _ => none
def F2 : List D → Option (List D) | [.flt x] => some [.bool (overP x)] | _ => none
def T1 : T :=
(.op none (.far .sub .f32) [.v 0, .v 0] <|
.op none (.fcm .eql .f32) [.v 1, .c (.flt 0)] <|
.out 0 [.v 2])
theorem run1 {G : Told} : Runs G F1 T1 := by
 intro ds rs h
 simp only [F1] at h
 split at h <;> simp only [Option.some.injEq, reduceCtorEq] at h
 subst h
 exact ⟨0, by simp [T1, run, Guard.ok, evs, Atom.ev, Prim.ev, farith, fcmp, finP]⟩
end Vs

namespace Vs
open Go
def F9 : List D → Option (List D) | [.flt x] => some [.flt (fsqrt .f64 x)] | _ => none
def F11 : List D → Option (List D) | [.flt x] => some [.flt (rootP x)] | _ => none
def T9 : T :=
(.op none (.sqrt .f64) [.v 0] <|
.out 0 [.v 1])
def T11 : T :=
(.op none (.f2f .f32 .f64) [.v 0] <|
.call none 9 [.v 1] 1 <|
.op none (.f2f .f64 .f32) [.v 2] <|
.out 0 [.v 3])
theorem run9 {G : Told} : Runs G F9 T9 := by
 intro ds rs h
 simp only [F9] at h
 split at h <;> simp only [Option.some.injEq, reduceCtorEq] at h
 subst h
 exact ⟨0, by simp [T9, run, Guard.ok, evs, Atom.ev, Prim.ev]⟩
theorem run11 {G : Told} (g9 : G 9 = F9) : Runs G F11 T11 := by
 intro ds rs h
 simp only [F11] at h
 split at h <;> simp only [Option.some.injEq, reduceCtorEq] at h
 subst h
 exact ⟨0, by simp [T11, run, Guard.ok, evs, Atom.ev, Prim.ev, g9, F9, f2f_wide, f2f_root]⟩
end Vs

namespace Vs
open Go
abbrev c1 : CT := .b f1
def innerP (a b c x y z : Nat) : Nat := fadd .f32 (fadd .f32 (fmul .f32 a x) (fmul .f32 b y)) (fmul .f32 c z)
def longP (a b c : Nat) : Nat := rootP (innerP a b c a b c)
def awayP (a b c x y z : Nat) : Nat := longP (fsub .f32 a x) (fsub .f32 b y) (fsub .f32 c z)
def F13 : List D → Option (List D) | [.flt a, .flt b, .flt c, .flt x, .flt y, .flt z] => some [.flt (fsub .f32 a x), .flt (fsub .f32 b y), .flt (fsub .f32 c z)] | _ => none
def F14 : List D → Option (List D) | [.flt a, .flt b, .flt c, .flt x, .flt y, .flt z] => some [.flt (innerP a b c x y z)] | _ => none
def F15 : List D → Option (List D) | [.flt a, .flt b, .flt c] => some [.flt (longP a b c)] | _ => none
def F17 : List D → Option (List D)
 | [.flt p, .flt q, .flt r, .flt a, .flt b, .flt c, .flt d, .flt e, .flt f, .flt x, .flt y, .flt z] => some [.flt (fadd .f32 (fadd .f32 (awayP p q r a b c) (awayP p q r d e f)) (awayP p q r x y z))]
 | _ => none
def T13 : T :=
(.op none (.far .sub .f32) [.v 0, .v 3] <|
.op none (.far .sub .f32) [.v 1, .v 4] <|
.op none (.far .sub .f32) [.v 2, .v 5] <|
.out 0 [.v 6, .v 7, .v 8])
def T14 : T :=
(.op none (.far .mul .f32) [.v 0, .v 3] <|
.op none (.far .mul .f32) [.v 1, .v 4] <|
.op none (.far .add .f32) [.v 6, .v 7] <|
.op none (.far .mul .f32) [.v 2, .v 5] <|
.op none (.far .add .f32) [.v 8, .v 9] <|
.out 0 [.v 10])
def T15 : T :=
(.call none 14 [.v 0, .v 1, .v 2, .v 0, .v 1, .v 2] 1 <|
.call none 11 [.v 3] 1 <|
.out 0 [.v 4])
def T17 : T :=
(.call none 13 [.v 0, .v 1, .v 2, .v 3, .v 4, .v 5] 3 <|
.call none 15 [.v 12, .v 13, .v 14] 1 <|
.call none 13 [.v 0, .v 1, .v 2, .v 6, .v 7, .v 8] 3 <|
.call none 15 [.v 16, .v 17, .v 18] 1 <|
.op none (.far .add .f32) [.v 15, .v 19] <|
.call none 13 [.v 0, .v 1, .v 2, .v 9, .v 10, .v 11] 3 <|
.call none 15 [.v 21, .v 22, .v 23] 1 <|
.op none (.far .add .f32) [.v 20, .v 24] <|
.out 0 [.v 25])
theorem run13 {G : Told} : Runs G F13 T13 := by
 intro ds rs h
 simp only [F13] at h
 split at h <;> simp only [Option.some.injEq, reduceCtorEq] at h
 subst h
 exact ⟨0, by simp [T13, run, Guard.ok, evs, Atom.ev, Prim.ev, farith]⟩
theorem run14 {G : Told} : Runs G F14 T14 := by
 intro ds rs h
 simp only [F14] at h
 split at h <;> simp only [Option.some.injEq, reduceCtorEq] at h
 subst h
 exact ⟨0, by simp [T14, run, Guard.ok, evs, Atom.ev, Prim.ev, farith, innerP]⟩
theorem run15 {G : Told} (g14 : G 14 = F14) (g11 : G 11 = F11) : Runs G F15 T15 := by
 intro ds rs h
 simp only [F15] at h
 split at h <;> simp only [Option.some.injEq, reduceCtorEq] at h
 subst h
 exact ⟨0, by simp [T15, run, Guard.ok, evs, Atom.ev, g14, F14, g11, F11, longP]⟩
theorem run17 {G : Told} (g13 : G 13 = F13) (g15 : G 15 = F15) : Runs G F17 T17 := by
 intro ds rs h
 simp only [F17] at h
 split at h <;> simp only [Option.some.injEq, reduceCtorEq] at h
 subst h
 exact ⟨0, by simp [T17, run, Guard.ok, evs, Atom.ev, Prim.ev, farith, g13, F13, g15, F15, awayP]⟩
end Vs

namespace Vs
open Go
def T32 : T :=
(.call none 18 [.v 0, .v 1, .v 2] 1 <|
.op none .bnot [.v 10] <|
.call (some (.v 11, false)) 18 [.v 3, .v 4, .v 5] 1 <|
.op (some (.v 11, false)) .bnot [.v 12] <|
.op none .pick [.v 11, .c (.bool true), .v 13] <|
.call (some (.v 14, false)) 18 [.v 6, .v 7, .v 8] 1 <|
.op (some (.v 14, false)) .bnot [.v 15] <|
.op none .pick [.v 14, .c (.bool true), .v 16] <|
.op (some (.v 17, false)) .id [.v 9] <|
.call (some (.v 17, false)) 19 [.v 18, .c (.int 0), .c (.int 100)] 1 <|
.op (some (.v 17, false)) .bnot [.v 19] <|
.op none .pick [.v 17, .c (.bool true), .v 20] <|
.ite (.v 21)
 (.out 0 [.c (.flt 0), .c (.flt 0), .c (.flt 0), .c (.bool false)])
 (.call none 30 [.v 0, .v 1, .v 2, .v 3, .v 4, .v 5] 3 <|
 .call none 30 [.v 22, .v 23, .v 24, .v 6, .v 7, .v 8] 3 <|
 .call none 31 [.v 25, .v 26, .v 27, .c (.flt 1051372203)] 3 <|
 .join 5
  (.loop [.v 28, .v 29, .v 30, .c (.int 0)]
   (.op none (.icm .lss) [.v 34, .v 9] <|
   .ite (.v 35)
    (.call none 13 [.v 31, .v 32, .v 33, .v 0, .v 1, .v 2] 3 <|
    .call none 15 [.v 36, .v 37, .v 38] 1 <|
    .op none (.far .quo .f32) [.c (.flt 1065353216), .v 39] <|
    .call none 13 [.v 31, .v 32, .v 33, .v 3, .v 4, .v 5] 3 <|
    .call none 15 [.v 41, .v 42, .v 43] 1 <|
    .op none (.far .quo .f32) [.c (.flt 1065353216), .v 44] <|
    .call none 13 [.v 31, .v 32, .v 33, .v 6, .v 7, .v 8] 3 <|
    .call none 15 [.v 46, .v 47, .v 48] 1 <|
    .op none (.far .quo .f32) [.c (.flt 1065353216), .v 49] <|
    .call none 1 [.v 40] 1 <|
    .op none .bnot [.v 51] <|
    .op (some (.v 52, false)) .id [.v 45] <|
    .call (some (.v 52, false)) 1 [.v 53] 1 <|
    .op (some (.v 52, false)) .bnot [.v 54] <|
    .op none .pick [.v 52, .c (.bool true), .v 55] <|
    .op (some (.v 56, false)) .id [.v 50] <|
    .call (some (.v 56, false)) 1 [.v 57] 1 <|
    .op (some (.v 56, false)) .bnot [.v 58] <|
    .op none .pick [.v 56, .c (.bool true), .v 59] <|
    .ite (.v 60)
     (.out 1 [.v 31, .v 32, .v 33, .v 34, .v 35])
     (.call none 31 [.v 0, .v 1, .v 2, .v 40] 3 <|
     .call none 31 [.v 3, .v 4, .v 5, .v 45] 3 <|
     .call none 30 [.v 61, .v 62, .v 63, .v 64, .v 65, .v 66] 3 <|
     .call none 31 [.v 6, .v 7, .v 8, .v 50] 3 <|
     .call none 30 [.v 67, .v 68, .v 69, .v 70, .v 71, .v 72] 3 <|
     .op none (.far .add .f32) [.v 40, .v 45] <|
     .op none (.far .add .f32) [.v 76, .v 50] <|
     .op none (.far .quo .f32) [.c (.flt 1065353216), .v 77] <|
     .call none 31 [.v 73, .v 74, .v 75, .v 78] 3 <|
     .op none (.iar .add .i64) [.v 34, .c (.int 1)] <|
     .out 0 [.v 79, .v 80, .v 81, .v 82]))
    (.out 1 [.v 31, .v 32, .v 33, .v 34, .v 35])))
 (.out 0 [.v 31, .v 32, .v 33, .c (.bool true)])))
def S32L0 (G : Told) (x0 : D) (x1 : D) (x2 : D) (x3 : D) (x4 : D) (x5 : D) (x6 : D) (x7 : D) (x8 : D) (x9 : D) : List D → Option (Nat × List D) := fun e31 =>
    (gev none (.icm .lss) [e31.getD 3 .undef, x9]).bind fun x35 =>
    tif x35 (
     (gcall G none 13 [e31.getD 0 .undef, e31.getD 1 .undef, e31.getD 2 .undef, x0, x1, x2] 3).bind fun e36 =>
     (gcall G none 15 [e36.getD 0 .undef, e36.getD 1 .undef, e36.getD 2 .undef] 1).bind fun e39 =>
     (gev none (.far .quo .f32) [.flt 1065353216, e39.getD 0 .undef]).bind fun x40 =>
     (gcall G none 13 [e31.getD 0 .undef, e31.getD 1 .undef, e31.getD 2 .undef, x3, x4, x5] 3).bind fun e41 =>
     (gcall G none 15 [e41.getD 0 .undef, e41.getD 1 .undef, e41.getD 2 .undef] 1).bind fun e44 =>
     (gev none (.far .quo .f32) [.flt 1065353216, e44.getD 0 .undef]).bind fun x45 =>
     (gcall G none 13 [e31.getD 0 .undef, e31.getD 1 .undef, e31.getD 2 .undef, x6, x7, x8] 3).bind fun e46 =>
     (gcall G none 15 [e46.getD 0 .undef, e46.getD 1 .undef, e46.getD 2 .undef] 1).bind fun e49 =>
     (gev none (.far .quo .f32) [.flt 1065353216, e49.getD 0 .undef]).bind fun x50 =>
     (gcall G none 1 [x40] 1).bind fun e51 =>
     (gev none .bnot [e51.getD 0 .undef]).bind fun x52 =>
     (gev (some (x52, false)) .id [x45]).bind fun x53 =>
     (gcall G (some (x52, false)) 1 [x53] 1).bind fun e54 =>
     (gev (some (x52, false)) .bnot [e54.getD 0 .undef]).bind fun x55 =>
     (gev none .pick [x52, .bool true, x55]).bind fun x56 =>
     (gev (some (x56, false)) .id [x50]).bind fun x57 =>
     (gcall G (some (x56, false)) 1 [x57] 1).bind fun e58 =>
     (gev (some (x56, false)) .bnot [e58.getD 0 .undef]).bind fun x59 =>
     (gev none .pick [x56, .bool true, x59]).bind fun x60 =>
     tif x60 (
      some (1, [e31.getD 0 .undef, e31.getD 1 .undef, e31.getD 2 .undef, e31.getD 3 .undef, x35])) (
      (gcall G none 31 [x0, x1, x2, x40] 3).bind fun e61 =>
      (gcall G none 31 [x3, x4, x5, x45] 3).bind fun e64 =>
      (gcall G none 30 [e61.getD 0 .undef, e61.getD 1 .undef, e61.getD 2 .undef, e64.getD 0 .undef, e64.getD 1 .undef, e64.getD 2 .undef] 3).bind fun e67 =>
      (gcall G none 31 [x6, x7, x8, x50] 3).bind fun e70 =>
      (gcall G none 30 [e67.getD 0 .undef, e67.getD 1 .undef, e67.getD 2 .undef, e70.getD 0 .undef, e70.getD 1 .undef, e70.getD 2 .undef] 3).bind fun e73 =>
      (gev none (.far .add .f32) [x40, x45]).bind fun x76 =>
      (gev none (.far .add .f32) [x76, x50]).bind fun x77 =>
      (gev none (.far .quo .f32) [.flt 1065353216, x77]).bind fun x78 =>
      (gcall G none 31 [e73.getD 0 .undef, e73.getD 1 .undef, e73.getD 2 .undef, x78] 3).bind fun e79 =>
      (gev none (.iar .add .i64) [e31.getD 3 .undef, .int 1]).bind fun x82 =>
      some (0, [e79.getD 0 .undef, e79.getD 1 .undef, e79.getD 2 .undef, x82]))) (
     some (1, [e31.getD 0 .undef, e31.getD 1 .undef, e31.getD 2 .undef, e31.getD 3 .undef, x35]))
def S32 (G : Told) (fuel : Nat) (x0 x1 x2 x3 x4 x5 x6 x7 x8 x9 : D) : Option (Nat × List D) :=
 (gcall G none 18 [x0, x1, x2] 1).bind fun e10 =>
 (gev none .bnot [e10.getD 0 .undef]).bind fun x11 =>
 (gcall G (some (x11, false)) 18 [x3, x4, x5] 1).bind fun e12 =>
 (gev (some (x11, false)) .bnot [e12.getD 0 .undef]).bind fun x13 =>
 (gev none .pick [x11, .bool true, x13]).bind fun x14 =>
 (gcall G (some (x14, false)) 18 [x6, x7, x8] 1).bind fun e15 =>
 (gev (some (x14, false)) .bnot [e15.getD 0 .undef]).bind fun x16 =>
 (gev none .pick [x14, .bool true, x16]).bind fun x17 =>
 (gev (some (x17, false)) .id [x9]).bind fun x18 =>
 (gcall G (some (x17, false)) 19 [x18, .int 0, .int 100] 1).bind fun e19 =>
 (gev (some (x17, false)) .bnot [e19.getD 0 .undef]).bind fun x20 =>
 (gev none .pick [x17, .bool true, x20]).bind fun x21 =>
 tif x21 (
  some (0, [.flt 0, .flt 0, .flt 0, .bool false])) (
  (gcall G none 30 [x0, x1, x2, x3, x4, x5] 3).bind fun e22 =>
  (gcall G none 30 [e22.getD 0 .undef, e22.getD 1 .undef, e22.getD 2 .undef, x6, x7, x8] 3).bind fun e25 =>
  (gcall G none 31 [e25.getD 0 .undef, e25.getD 1 .undef, e25.getD 2 .undef, .flt 1051372203] 3).bind fun e28 =>
  tjoin 5 (
   iter (tbody 4 (S32L0 G x0 x1 x2 x3 x4 x5 x6 x7 x8 x9)) fuel [e28.getD 0 .undef, e28.getD 1 .undef, e28.getD 2 .undef, .int 0]) fun e31 =>
  some (0, [e31.getD 0 .undef, e31.getD 1 .undef, e31.getD 2 .undef, .bool true]))
theorem eq32 {G fuel} (x0 x1 x2 x3 x4 x5 x6 x7 x8 x9) : run G fuel T32 [x0, x1, x2, x3, x4, x5, x6, x7, x8, x9] = S32 G fuel x0 x1 x2 x3 x4 x5 x6 x7 x8 x9 := by rw [run_eq]; kernel_rfl
end Vs

namespace Vs
open Go
structure V3 where
 x : Nat
 y : Nat
 z : Nat
def V3.add (a b : V3) : V3 := ⟨fadd .f32 a.x b.x, fadd .f32 a.y b.y, fadd .f32 a.z b.z⟩
def V3.scale (a : V3) (k : Nat) : V3 := ⟨fmul .f32 a.x k, fmul .f32 a.y k, fmul .f32 a.z k⟩
def V3.away (p a : V3) : Nat := awayP p.x p.y p.z a.x a.y a.z
def V3.fin (a : V3) : Bool := finP a.x && finP a.y && finP a.z
def V3.ds (a : V3) : List D := [.flt a.x, .flt a.y, .flt a.z]
def part1 (x : Nat) : Nat := fdiv .f32 1065353216 x
def meetStep (a b c p : V3) : Option V3 :=
 let u := part1 (p.away a)
 let v := part1 (p.away b)
 let w := part1 (p.away c)
 if finP u && finP v && finP w then some ((((a.scale u).add (b.scale v)).add (c.scale w)).scale (part1 (fadd .f32 (fadd .f32 u v) w))) else none
def goN (step : V3 → Option V3) : Nat → V3 → V3
 | 0, p => p
 | n + 1, p => match step p with | some q => goN step n q | none => p
theorem goN_none {step : V3 → Option V3} {p : V3} {k : Nat} (h : step p = none) : goN step (k + 1) p = p := by simp only [goN, h]
theorem goN_some {step : V3 → Option V3} {p q : V3} {k : Nat} (h : step p = some q) : goN step (k + 1) p = goN step k q := by simp only [goN, h]
def meetN (a b c : V3) (n : Nat) (p : V3) : V3 := goN (meetStep a b c) n p
theorem meetN_none {a b c p : V3} {k : Nat} (h : meetStep a b c p = none) : meetN a b c (k + 1) p = p := goN_none h
theorem meetN_some {a b c p q : V3} {k : Nat} (h : meetStep a b c p = some q) : meetN a b c (k + 1) p = meetN a b c k q := goN_some h
def meetP (a b c : V3) (n : Int) : Option V3 :=
 if a.fin && b.fin && c.fin && decide (0 ≤ n) && decide (n ≤ 100) then some (meetN a b c n.toNat (((a.add b).add c).scale 1051372203)) else none
def F18 : List D → Option (List D) | [.flt a, .flt b, .flt c] => some [.bool (V3.fin ⟨a, b, c⟩)] | _ => none
def F19 : List D → Option (List D) | [.int n, .int a, .int b] => some [.bool (decide (a ≤ n) && decide (n ≤ b))] | _ => none
def F30 : List D → Option (List D) | [.flt a, .flt b, .flt c, .flt x, .flt y, .flt z] => some (V3.add ⟨a, b, c⟩ ⟨x, y, z⟩).ds | _ => none
def F31 : List D → Option (List D) | [.flt a, .flt b, .flt c, .flt k] => some (V3.scale ⟨a, b, c⟩ k).ds | _ => none
def F32 : List D → Option (List D)
 | [.flt a, .flt b, .flt c, .flt d, .flt e, .flt f, .flt x, .flt y, .flt z, .int n] =>
  some (match meetP ⟨a, b, c⟩ ⟨d, e, f⟩ ⟨x, y, z⟩ n with | some p => p.ds ++ [.bool true] | none => [.flt 0, .flt 0, .flt 0, .bool false])
 | _ => none
def T18 : T :=
(.call none 1 [.v 0] 1 <|
.op (some (.v 3, true)) .id [.v 1] <|
.call (some (.v 3, true)) 1 [.v 4] 1 <|
.op none .pick [.v 3, .v 5, .c (.bool false)] <|
.op (some (.v 6, true)) .id [.v 2] <|
.call (some (.v 6, true)) 1 [.v 7] 1 <|
.op none .pick [.v 6, .v 8, .c (.bool false)] <|
.out 0 [.v 9])
def T19 : T :=
(.op none (.icm .geq) [.v 0, .v 1] <|
.op (some (.v 3, true)) .id [.v 0] <|
.op (some (.v 3, true)) .id [.v 2] <|
.op (some (.v 3, true)) (.icm .leq) [.v 4, .v 5] <|
.op none .pick [.v 3, .v 6, .c (.bool false)] <|
.out 0 [.v 7])
def T30 : T :=
(.op none (.far .add .f32) [.v 0, .v 3] <|
.op none (.far .add .f32) [.v 1, .v 4] <|
.op none (.far .add .f32) [.v 2, .v 5] <|
.out 0 [.v 6, .v 7, .v 8])
def T31 : T :=
(.op none (.far .mul .f32) [.v 0, .v 3] <|
.op none (.far .mul .f32) [.v 1, .v 3] <|
.op none (.far .mul .f32) [.v 2, .v 3] <|
.out 0 [.v 4, .v 5, .v 6])
theorem run18 {G : Told} (g1 : G 1 = F1) : Runs G F18 T18 := by
 intro ds rs h
 simp only [F18] at h
 split at h <;> simp only [Option.some.injEq, reduceCtorEq] at h
 subst h
 rename_i a b c
 refine ⟨0, ?_⟩
 cases h1 : finP a <;> cases h2 : finP b <;> cases h3 : finP c <;> simp [T18, run, Guard.ok, evs, Atom.ev, Prim.ev, g1, F1, V3.fin, h1, h2, h3]
theorem run19 {G : Told} : Runs G F19 T19 := by
 intro ds rs h
 simp only [F19] at h
 split at h <;> simp only [Option.some.injEq, reduceCtorEq] at h
 subst h
 rename_i n a b
 refine ⟨0, ?_⟩
 by_cases h1 : a ≤ n <;> simp [T19, run, Guard.ok, evs, Atom.ev, Prim.ev, icmp, h1]
theorem run30 {G : Told} : Runs G F30 T30 := by
 intro ds rs h
 simp only [F30] at h
 split at h <;> simp only [Option.some.injEq, reduceCtorEq] at h
 subst h
 exact ⟨0, by simp [T30, run, Guard.ok, evs, Atom.ev, Prim.ev, farith, V3.add, V3.ds]⟩
theorem run31 {G : Told} : Runs G F31 T31 := by
 intro ds rs h
 simp only [F31] at h
 split at h <;> simp only [Option.some.injEq, reduceCtorEq] at h
 subst h
 exact ⟨0, by simp [T31, run, Guard.ok, evs, Atom.ev, Prim.ev, farith, V3.scale, V3.ds]⟩
theorem wrap_small {i : Int} (h0 : 0 ≤ i) (h1 : i ≤ 1000000) : IntKind.wrap .i64 i = i := by
 simp only [IntKind.wrap, IntKind.bits, IntKind.signed]
 have : i % 2 ^ 64 = i := Int.emod_eq_of_lt h0 (by omega)
 simp only [this]
 split
 ·rename_i h
  simp at h;omega
 ·rfl
attribute [local irreducible] fadd fsub fmul fdiv finP feq flt fle rootP longP innerP

set_option maxHeartbeats 4000000 in
theorem step32 {G : Told} (g1 : G 1 = F1) (g13 : G 13 = F13) (g15 : G 15 = F15) (g30 : G 30 = F30) (g31 : G 31 = F31) (a b c p : V3) (n i : Int) :
  tbody 4 (S32L0 G (.flt a.x) (.flt a.y) (.flt a.z) (.flt b.x) (.flt b.y) (.flt b.z) (.flt c.x) (.flt c.y) (.flt c.z) (.int n)) [.flt p.x, .flt p.y, .flt p.z, .int i] = some (if i < n then (match meetStep a b c p with
   | some q => (0, [.flt q.x, .flt q.y, .flt q.z, .int (IntKind.wrap .i64 (i + 1))])
   | none => (1, [.flt p.x, .flt p.y, .flt p.z] ++ [.int i] ++ [.bool true])) else (1, [.flt p.x, .flt p.y, .flt p.z] ++ [.int i] ++ [.bool false])) := by
 refine (if_pos rfl).trans ?_
 by_cases hi : i < n
 ·have hi' : decide (i < n) = true := by simpa using hi
  rw [if_pos hi];unfold S32L0;have e1 : part1 (p.away a) = fdiv .f32 1065353216 (longP (fsub .f32 p.x a.x) (fsub .f32 p.y a.y) (fsub .f32 p.z a.z)) := rfl;have e2 : part1 (p.away b) = fdiv .f32 1065353216 (longP (fsub .f32 p.x b.x) (fsub .f32 p.y b.y) (fsub .f32 p.z b.z)) := rfl;have e3 : part1 (p.away c) = fdiv .f32 1065353216 (longP (fsub .f32 p.x c.x) (fsub .f32 p.y c.y) (fsub .f32 p.z c.z)) := rfl
  cases h1 : finP (fdiv .f32 1065353216 (longP (fsub .f32 p.x a.x) (fsub .f32 p.y a.y) (fsub .f32 p.z a.z))) <;> cases h2 : finP (fdiv .f32 1065353216 (longP (fsub .f32 p.x b.x) (fsub .f32 p.y b.y) (fsub .f32 p.z b.z))) <;>
   cases h3 : finP (fdiv .f32 1065353216 (longP (fsub .f32 p.x c.x) (fsub .f32 p.y c.y) (fsub .f32 p.z c.z))) <;> (
   simp only [meetStep, e1, e2, e3, h1, h2, h3]
   repeat' first
   | (apply st_callt; assumption; exact rfl; exact rfl; assumption)
   | (apply st_callf; assumption; exact rfl; exact rfl; assumption)
   | (apply st_call; assumption; exact rfl; exact rfl; exact rfl)
   | (apply st_skip; exact rfl)
   | (apply st_t; exact rfl; exact rfl)
   | (apply st_f; exact rfl; exact rfl)
   | (apply st_t; exact rfl; assumption)
   | (apply st_f; exact rfl; assumption)
   | (apply st_some; exact rfl)
   | refine st_ift ?_
   | refine st_iff ?_
   | exact rfl)
 ·have hi' : decide (i < n) = false := by simpa using hi
  rw [if_neg hi];unfold S32L0
  repeat' first
   | (apply st_callt; assumption; exact rfl; exact rfl; assumption)
   | (apply st_callf; assumption; exact rfl; exact rfl; assumption)
   | (apply st_call; assumption; exact rfl; exact rfl; exact rfl)
   | (apply st_skip; exact rfl)
   | (apply st_t; exact rfl; exact rfl)
   | (apply st_f; exact rfl; exact rfl)
   | (apply st_t; exact rfl; assumption)
   | (apply st_f; exact rfl; assumption)
   | (apply st_some; exact rfl)
   | refine st_ift ?_
   | refine st_iff ?_
   | exact rfl
theorem rounds32 {step : List D → Option (Nat × List D)} {a b c : V3} {n : Int} {rest : Int → List D} (hn : n ≤ 100)
  (hs : ∀ p i, step [.flt p.x, .flt p.y, .flt p.z, .int i] = some (if i < n then (match meetStep a b c p with
   | some q => (0, [.flt q.x, .flt q.y, .flt q.z, .int (IntKind.wrap .i64 (i + 1))])
   | none => (1, [.flt p.x, .flt p.y, .flt p.z] ++ rest i ++ [.bool true])) else (1, [.flt p.x, .flt p.y, .flt p.z] ++ rest i ++ [.bool false]))) :
  ∀ (k : Nat) (p : V3) (i : Int), 0 ≤ i → (n - i).toNat = k → ∃ j w, iter step (k + 1) [.flt p.x, .flt p.y, .flt p.z, .int i] = some (0, [.flt (meetN a b c k p).x, .flt (meetN a b c k p).y, .flt (meetN a b c k p).z] ++ rest j ++ [.bool w])
 | 0, p, i, h0, hk => by
  have : ¬ i < n := by omega
  refine ⟨i, false, iter_end (l := 0) (ds' := [.flt p.x, .flt p.y, .flt p.z] ++ rest i ++ [.bool false]) ?_ rfl⟩;rw [hs, if_neg this]
 | k + 1, p, i, h0, hk => by
  have : i < n := by omega
  cases hm : meetStep a b c p with
  | none =>
   refine ⟨i, true, iter_end (l := 0) (ds' := [.flt p.x, .flt p.y, .flt p.z] ++ rest i ++ [.bool true]) ?_ ?_⟩
   ·rw [hs, if_pos this, hm]
   ·rw [meetN_none hm]
  | some q =>
   obtain ⟨j, w, hj⟩ := rounds32 hn hs k q (i + 1) (by omega) (by omega)
   refine ⟨j, w, iter_go (ds' := [.flt q.x, .flt q.y, .flt q.z, .int (i + 1)]) ?_ ?_⟩
   ·rw [hs, if_pos this, hm]
    dsimp only
    rw [wrap_small (by omega) (by omega)]
   ·rw [hj, meetN_some hm]
set_option maxHeartbeats 4000000 in
theorem run32 {G : Told} (g1 : G 1 = F1) (g13 : G 13 = F13) (g15 : G 15 = F15) (g18 : G 18 = F18) (g19 : G 19 = F19) (g30 : G 30 = F30) (g31 : G 31 = F31) : Runs G F32 T32 := by
 intro ds rs h
 simp only [F32] at h
 split at h <;> simp only [Option.some.injEq, reduceCtorEq] at h
 subst h
 rename_i a b c d e f x y z n
 refine ⟨n.toNat + 1, ?_⟩
 rw [eq32]
 unfold S32 meetP
 cases h1 : V3.fin ⟨a, b, c⟩
 ·repeat' first
   | (apply st_callt; assumption; exact rfl; exact rfl; assumption)
   | (apply st_callf; assumption; exact rfl; exact rfl; assumption)
   | (apply st_call; assumption; exact rfl; exact rfl; exact rfl)
   | (apply st_skip; exact rfl)
   | (apply st_t; exact rfl; exact rfl)
   | (apply st_f; exact rfl; exact rfl)
   | (apply st_t; exact rfl; assumption)
   | (apply st_f; exact rfl; assumption)
   | (apply st_some; exact rfl)
   | refine st_ift ?_
   | refine st_iff ?_
   | exact rfl
 cases h2 : V3.fin ⟨d, e, f⟩
 ·repeat' first
   | (apply st_callt; assumption; exact rfl; exact rfl; assumption)
   | (apply st_callf; assumption; exact rfl; exact rfl; assumption)
   | (apply st_call; assumption; exact rfl; exact rfl; exact rfl)
   | (apply st_skip; exact rfl)
   | (apply st_t; exact rfl; exact rfl)
   | (apply st_f; exact rfl; exact rfl)
   | (apply st_t; exact rfl; assumption)
   | (apply st_f; exact rfl; assumption)
   | (apply st_some; exact rfl)
   | refine st_ift ?_
   | refine st_iff ?_
   | exact rfl
 cases h3 : V3.fin ⟨x, y, z⟩
 ·repeat' first
   | (apply st_callt; assumption; exact rfl; exact rfl; assumption)
   | (apply st_callf; assumption; exact rfl; exact rfl; assumption)
   | (apply st_call; assumption; exact rfl; exact rfl; exact rfl)
   | (apply st_skip; exact rfl)
   | (apply st_t; exact rfl; exact rfl)
   | (apply st_f; exact rfl; exact rfl)
   | (apply st_t; exact rfl; assumption)
   | (apply st_f; exact rfl; assumption)
   | (apply st_some; exact rfl)
   | refine st_ift ?_
   | refine st_iff ?_
   | exact rfl
 cases h4 : (decide (0 ≤ n) && decide (n ≤ 100))
 ·have h5 : (true && true && true && decide (0 ≤ n) && decide (n ≤ 100)) = false := by simpa using h4
  rw [h5]
  repeat' first
   | (apply st_callt; assumption; exact rfl; exact rfl; assumption)
   | (apply st_callf; assumption; exact rfl; exact rfl; assumption)
   | (apply st_call; assumption; exact rfl; exact rfl; exact rfl)
   | (apply st_skip; exact rfl)
   | (apply st_t; exact rfl; exact rfl)
   | (apply st_f; exact rfl; exact rfl)
   | (apply st_t; exact rfl; assumption)
   | (apply st_f; exact rfl; assumption)
   | (apply st_some; exact rfl)
   | refine st_ift ?_
   | refine st_iff ?_
   | exact rfl
 ·have h5 : (true && true && true && decide (0 ≤ n) && decide (n ≤ 100)) = true := by simpa using h4
  have h6 : 0 ≤ n ∧ n ≤ 100 := by simpa using h4
  rw [h5];obtain ⟨j, w, hj⟩ := rounds32 (a := ⟨a, b, c⟩) (b := ⟨d, e, f⟩) (c := ⟨x, y, z⟩) (rest := fun i => [.int i]) h6.2 (fun p i => step32 g1 g13 g15 g30 g31 ⟨a, b, c⟩ ⟨d, e, f⟩ ⟨x, y, z⟩ p n i) n.toNat (V3.scale (V3.add (V3.add ⟨a, b, c⟩ ⟨d, e, f⟩) ⟨x, y, z⟩) 1051372203) 0 (by omega) (by simp)
  repeat' first
   | (apply st_callt; assumption; exact rfl; exact rfl; assumption)
   | (apply st_callf; assumption; exact rfl; exact rfl; assumption)
   | (apply st_call; assumption; exact rfl; exact rfl; exact rfl)
   | (apply st_skip; exact rfl)
   | (apply st_t; exact rfl; exact rfl)
   | (apply st_f; exact rfl; exact rfl)
   | (apply st_t; exact rfl; assumption)
   | (apply st_f; exact rfl; assumption)
   | (apply st_some; exact rfl)
   | refine st_ift ?_
   | refine st_iff ?_
   | exact rfl
  refine st_join hj rfl ?_;exact rfl
end Vs

namespace Vs
open Go
attribute [local irreducible] wide meetP

end Vs

namespace Vs
open Go
theorem wrapU {i : Int} (h0 : 0 ≤ i) (h : i < 4611686018427387904) : IntKind.wrap .i64 (i + 1) = i + 1 := by
 simp only [IntKind.wrap, IntKind.bits, IntKind.signed]
 have : (i + 1) % 2 ^ 64 = i + 1 := Int.emod_eq_of_lt (by omega) (by omega)
 simp only [this]
 split
 ·rename_i h
  simp at h;omega
 ·rfl
theorem tb {m : Nat} {k : List D → Option (Nat × List D)} {ds : List D} {X : Option (Nat × List D)} (h : ds.length = m) (hk : k ds = X) : tbody m k ds = X := by simp [tbody, h, hk]
def mk : Int → Nat → List D
 | _, 0 => []
 | m, n + 1 => .int m :: mk (m + 1) n
end Vs

