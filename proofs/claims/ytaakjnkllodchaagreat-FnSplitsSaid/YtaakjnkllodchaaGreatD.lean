/-
  Laws of the plain functions of films: what the functions compute, and that the texts of the executor compute it.
-/
import Derived.Test.YtaakjnkllodchaaGreatE
namespace Vs
open Go
def finP (x : Nat) : Bool := feq .f32 (fsub .f32 x x) 0
def overP (x : Nat) : Bool := finP x && fgt .f32 x 0
def F1 : List D → Option (List D) | [.flt x] => some [.bool (finP x)] | _ => none
def F2 : List D → Option (List D) | [.flt x] => some [.bool (overP x)] | _ => none
def T1 : T :=
(.op none (.far .sub .f32) [.v 0, .v 0] <|
.op none (.fcm .eql .f32) [.v 1, .c (.flt 0)] <|
.out 0 [.v 2])
theorem run1 {G : Told} : Runs G F1 T1 := by
 intro ds rs h
 simp only [F1] at h
 split at h <;> simp only [Option.some.injEq, reduceCtorEq] at h
 subst h
 exact ⟨0, by simp [T1, run, Guard.ok, evs, Atom.ev, Prim.ev, farith, fcmp, finP]⟩
end Vs

namespace Vs
open Go
def F9 : List D → Option (List D) | [.flt x] => some [.flt (fsqrt .f64 x)] | _ => none
def F10 : List D → Option (List D) | [.flt x] => (f2f .f64 .f32 x).map fun y => [.flt y] | _ => none
def F11 : List D → Option (List D) | [.flt x] => some [.flt (rootP x)] | _ => none
def T9 : T :=
(.op none (.sqrt .f64) [.v 0] <|
.out 0 [.v 1])
def T10 : T :=
(.op none (.f2f .f64 .f32) [.v 0] <|
.out 0 [.v 1])
def T11 : T :=
(.op none (.f2f .f32 .f64) [.v 0] <|
.call none 9 [.v 1] 1 <|
.op none (.f2f .f64 .f32) [.v 2] <|
.out 0 [.v 3])
def T11' : T :=
(.op none (.f2f .f32 .f64) [(.v 0)] <|
(.call none 9 [(.v 1)] 1 <|
(.call none 10 [(.v 2)] 1 <|
(.out 0 [(.v 3)]))))
theorem run9 {G : Told} : Runs G F9 T9 := by
 intro ds rs h
 simp only [F9] at h
 split at h <;> simp only [Option.some.injEq, reduceCtorEq] at h
 subst h
 exact ⟨0, by simp [T9, run, Guard.ok, evs, Atom.ev, Prim.ev]⟩
theorem run10 {G : Told} : Runs G F10 T10 := by
 intro ds rs h
 simp only [F10] at h
 split at h
 ·simp only [Option.map_eq_some_iff] at h
  obtain ⟨y, hy, rfl⟩ := h;exact ⟨0, by simp [T10, run, Guard.ok, evs, Atom.ev, Prim.ev, hy]⟩
 ·cases h
theorem run11 {G : Told} (g9 : G 9 = F9) : Runs G F11 T11 := by
 intro ds rs h
 simp only [F11] at h
 split at h <;> simp only [Option.some.injEq, reduceCtorEq] at h
 subst h
 exact ⟨0, by simp [T11, run, Guard.ok, evs, Atom.ev, Prim.ev, g9, F9, f2f_wide, f2f_root]⟩
theorem run11' {G : Told} (g9 : G 9 = F9) (g10 : G 10 = F10) : ∀ ds rs, F11 ds = some rs → ∃ fuel, run G fuel T11' ds = some (0, rs) := by
 intro ds rs h
 simp only [F11] at h
 split at h <;> simp only [Option.some.injEq, reduceCtorEq] at h
 subst h
 exact ⟨0, by simp [T11', run, Guard.ok, evs, Atom.ev, Prim.ev, g9, F9, g10, F10, f2f_wide, f2f_root]⟩
end Vs

namespace Vs
open Go
abbrev c1 : CT := .b f1
def innerP (a b c x y z : Nat) : Nat := fadd .f32 (fadd .f32 (fmul .f32 a x) (fmul .f32 b y)) (fmul .f32 c z)
def longP (a b c : Nat) : Nat := rootP (innerP a b c a b c)
def F13 : List D → Option (List D) | [.flt a, .flt b, .flt c, .flt x, .flt y, .flt z] => some [.flt (fsub .f32 a x), .flt (fsub .f32 b y), .flt (fsub .f32 c z)] | _ => none
def F14 : List D → Option (List D) | [.flt a, .flt b, .flt c, .flt x, .flt y, .flt z] => some [.flt (innerP a b c x y z)] | _ => none
def F15 : List D → Option (List D) | [.flt a, .flt b, .flt c] => some [.flt (longP a b c)] | _ => none
def T13 : T :=
(.op none (.far .sub .f32) [.v 0, .v 3] <|
.op none (.far .sub .f32) [.v 1, .v 4] <|
.op none (.far .sub .f32) [.v 2, .v 5] <|
.out 0 [.v 6, .v 7, .v 8])
def T14 : T :=
(.op none (.far .mul .f32) [.v 0, .v 3] <|
.op none (.far .mul .f32) [.v 1, .v 4] <|
.op none (.far .add .f32) [.v 6, .v 7] <|
.op none (.far .mul .f32) [.v 2, .v 5] <|
.op none (.far .add .f32) [.v 8, .v 9] <|
.out 0 [.v 10])
def T15 : T :=
(.call none 14 [.v 0, .v 1, .v 2, .v 0, .v 1, .v 2] 1 <|
.call none 11 [.v 3] 1 <|
.out 0 [.v 4])
theorem run13 {G : Told} : Runs G F13 T13 := by
 intro ds rs h
 simp only [F13] at h
 split at h <;> simp only [Option.some.injEq, reduceCtorEq] at h
 subst h
 exact ⟨0, by simp [T13, run, Guard.ok, evs, Atom.ev, Prim.ev, farith]⟩
theorem run14 {G : Told} : Runs G F14 T14 := by
 intro ds rs h
 simp only [F14] at h
 split at h <;> simp only [Option.some.injEq, reduceCtorEq] at h
 subst h
 exact ⟨0, by simp [T14, run, Guard.ok, evs, Atom.ev, Prim.ev, farith, innerP]⟩
theorem run15 {G : Told} (g14 : G 14 = F14) (g11 : G 11 = F11) : Runs G F15 T15 := by
 intro ds rs h
 simp only [F15] at h
 split at h <;> simp only [Option.some.injEq, reduceCtorEq] at h
 subst h
 exact ⟨0, by simp [T15, run, Guard.ok, evs, Atom.ev, g14, F14, g11, F11, longP]⟩
end Vs

namespace Vs
open Go
end Vs

namespace Vs
open Go
structure V3 where
 x : Nat
 y : Nat
 z : Nat
def V3.add (a b : V3) : V3 := ⟨fadd .f32 a.x b.x, fadd .f32 a.y b.y, fadd .f32 a.z b.z⟩
def V3.scale (a : V3) (k : Nat) : V3 := ⟨fmul .f32 a.x k, fmul .f32 a.y k, fmul .f32 a.z k⟩
def V3.fin (a : V3) : Bool := finP a.x && finP a.y && finP a.z
def V3.ds (a : V3) : List D := [.flt a.x, .flt a.y, .flt a.z]
def F19 : List D → Option (List D) | [.int n, .int a, .int b] => some [.bool (decide (a ≤ n) && decide (n ≤ b))] | _ => none
def F30 : List D → Option (List D) | [.flt a, .flt b, .flt c, .flt x, .flt y, .flt z] => some (V3.add ⟨a, b, c⟩ ⟨x, y, z⟩).ds | _ => none
def F31 : List D → Option (List D) | [.flt a, .flt b, .flt c, .flt k] => some (V3.scale ⟨a, b, c⟩ k).ds | _ => none
def T19 : T :=
(.op none (.icm .geq) [.v 0, .v 1] <|
.op (some (.v 3, true)) .id [.v 0] <|
.op (some (.v 3, true)) .id [.v 2] <|
.op (some (.v 3, true)) (.icm .leq) [.v 4, .v 5] <|
.op none .pick [.v 3, .v 6, .c (.bool false)] <|
.out 0 [.v 7])
def T30 : T :=
(.op none (.far .add .f32) [.v 0, .v 3] <|
.op none (.far .add .f32) [.v 1, .v 4] <|
.op none (.far .add .f32) [.v 2, .v 5] <|
.out 0 [.v 6, .v 7, .v 8])
def T31 : T :=
(.op none (.far .mul .f32) [.v 0, .v 3] <|
.op none (.far .mul .f32) [.v 1, .v 3] <|
.op none (.far .mul .f32) [.v 2, .v 3] <|
.out 0 [.v 4, .v 5, .v 6])
theorem run19 {G : Told} : Runs G F19 T19 := by
 intro ds rs h
 simp only [F19] at h
 split at h <;> simp only [Option.some.injEq, reduceCtorEq] at h
 subst h
 rename_i n a b
 refine ⟨0, ?_⟩
 by_cases h1 : a ≤ n <;> simp [T19, run, Guard.ok, evs, Atom.ev, Prim.ev, icmp, h1]
theorem run30 {G : Told} : Runs G F30 T30 := by
 intro ds rs h
 simp only [F30] at h
 split at h <;> simp only [Option.some.injEq, reduceCtorEq] at h
 subst h
 exact ⟨0, by simp [T30, run, Guard.ok, evs, Atom.ev, Prim.ev, farith, V3.add, V3.ds]⟩
theorem run31 {G : Told} : Runs G F31 T31 := by
 intro ds rs h
 simp only [F31] at h
 split at h <;> simp only [Option.some.injEq, reduceCtorEq] at h
 subst h
 exact ⟨0, by simp [T31, run, Guard.ok, evs, Atom.ev, Prim.ev, farith, V3.scale, V3.ds]⟩
theorem wrap_small {i : Int} (h0 : 0 ≤ i) (h1 : i ≤ 1000000) : IntKind.wrap .i64 i = i := by
 simp only [IntKind.wrap, IntKind.bits, IntKind.signed]
 have : i % 2 ^ 64 = i := Int.emod_eq_of_lt h0 (by omega)
 simp only [this]
 split
 ·rename_i h
  simp at h;omega
 ·rfl
attribute [local irreducible] fadd fsub fmul fdiv finP feq flt fle rootP longP innerP

end Vs

namespace Vs
open Go
attribute [local irreducible] wide

end Vs

namespace Vs
open Go
theorem wrapU {i : Int} (h0 : 0 ≤ i) (h : i < 4611686018427387904) : IntKind.wrap .i64 (i + 1) = i + 1 := by
 simp only [IntKind.wrap, IntKind.bits, IntKind.signed]
 have : (i + 1) % 2 ^ 64 = i + 1 := Int.emod_eq_of_lt (by omega) (by omega)
 simp only [this]
 split
 ·rename_i h
  simp at h;omega
 ·rfl
theorem tb {m : Nat} {k : List D → Option (Nat × List D)} {ds : List D} {X : Option (Nat × List D)} (h : ds.length = m) (hk : k ds = X) : tbody m k ds = X := by simp [tbody, h, hk]
def mk : Int → Nat → List D
 | _, 0 => []
 | m, n + 1 => .int m :: mk (m + 1) n
end Vs

