/-
  Laws of the plain functions of films: what the functions compute, and that the texts of the executor compute it.
-/
import Derived.Test.YthgocnlbnghbbaaC
namespace Vs
open Go

/-! ### What they compute -/
def finP (x : Nat) : Bool := feq .f32 (fsub .f32 x x) 0
def sameP (x y : Nat) : Bool :=
  if !feq .f64 x x || !feq .f64 y y then !feq .f64 x x && !feq .f64 y y
  else if feq .f64 x 0 && feq .f64 y 0 then (fgt .f64 (fdiv .f64 4607182418800017408 x) 0 == fgt .f64 (fdiv .f64 4607182418800017408 y) 0)
  else feq .f64 x y
theorem sameP_self (x : Nat) : sameP x x = true := by
  unfold sameP
  cases h : feq .f64 x x <;> simp

def F1 : List D → Option (List D) | [.flt x] => some [.bool (finP x)] | _ => none
def F4 : List D → Option (List D) | [.flt x, .flt y] => some [.bool (sameP x y)] | _ => none
/-! ### The texts -/
def T1 : T :=
(.op none (.far .sub .f32) [(.v 0), (.v 0)] <|
(.op none (.fcm .eql .f32) [(.v 1), (.c (.flt 0))] <|
(.out 0 [(.v 2)])))
def T4 : T :=
(.op none (.fcm .neq .f64) [(.v 0), (.v 0)] <|
(.op (some ((.v 2), false)) .id [(.v 1)] <|
(.op (some ((.v 2), false)) .id [(.v 1)] <|
(.op (some ((.v 2), false)) (.fcm .neq .f64) [(.v 3), (.v 4)] <|
(.op none .pick [(.v 2), (.c (.bool true)), (.v 5)] <|
(.ite (.v 6)
  (.op none (.fcm .neq .f64) [(.v 0), (.v 0)] <|
  (.op (some ((.v 7), true)) .id [(.v 1)] <|
  (.op (some ((.v 7), true)) .id [(.v 1)] <|
  (.op (some ((.v 7), true)) (.fcm .neq .f64) [(.v 8), (.v 9)] <|
  (.op none .pick [(.v 7), (.v 10), (.c (.bool false))] <|
  (.out 0 [(.v 11)]))))))
  (.op none (.fcm .eql .f64) [(.v 0), (.c (.flt 0))] <|
  (.op (some ((.v 7), true)) .id [(.v 1)] <|
  (.op (some ((.v 7), true)) (.fcm .eql .f64) [(.v 8), (.c (.flt 0))] <|
  (.op none .pick [(.v 7), (.v 9), (.c (.bool false))] <|
  (.ite (.v 10)
    (.op none (.far .quo .f64) [(.c (.flt 4607182418800017408)), (.v 0)] <|
    (.op none (.fcm .gtr .f64) [(.v 11), (.c (.flt 0))] <|
    (.op none (.far .quo .f64) [(.c (.flt 4607182418800017408)), (.v 1)] <|
    (.op none (.fcm .gtr .f64) [(.v 13), (.c (.flt 0))] <|
    (.op none .beq [(.v 12), (.v 14)] <|
    (.out 0 [(.v 15)]))))))
    (.op none (.fcm .eql .f64) [(.v 0), (.v 1)] <|
    (.out 0 [(.v 11)])))))))))))))

theorem run1 {G : Told} : ∀ ds rs, F1 ds = some rs → ∃ fuel, run G fuel T1 ds = some (0, rs) := by
  intro ds rs h
  simp only [F1] at h
  split at h <;> simp only [Option.some.injEq, reduceCtorEq] at h
  subst h
  exact ⟨0, by simp [T1, run, Guard.ok, evs, Atom.ev, Prim.ev, farith, fcmp, finP]⟩

theorem run4 {G : Told} : ∀ ds rs, F4 ds = some rs → ∃ fuel, run G fuel T4 ds = some (0, rs) := by
  intro ds rs h
  simp only [F4] at h
  split at h <;> simp only [Option.some.injEq, reduceCtorEq] at h
  subst h
  rename_i x y
  refine ⟨0, ?_⟩
  cases h1 : feq .f64 x x <;> cases h2 : feq .f64 y y <;> cases h3 : feq .f64 x 0 <;> cases h4 : feq .f64 y 0 <;>
    simp [T4, run, Guard.ok, evs, Atom.ev, Prim.ev, farith, fcmp, sameP, h1, h2, h3, h4]

/-! ### The laws' own texts -/
end Vs

namespace Vs
open Go

def F9 : List D → Option (List D) | [.flt x] => some [.flt (fsqrt .f64 x)] | _ => none
def F10 : List D → Option (List D) | [.flt x] => (f2f .f64 .f32 x).map fun y => [.flt y] | _ => none
def F11 : List D → Option (List D) | [.flt x] => some [.flt (rootP x)] | _ => none
def T9 : T :=
(.op none (.sqrt .f64) [(.v 0)] <|
(.out 0 [(.v 1)]))
def T10 : T :=
(.op none (.f2f .f64 .f32) [(.v 0)] <|
(.out 0 [(.v 1)]))
def T11 : T :=
(.op none (.f2f .f32 .f64) [(.v 0)] <|
(.call none 9 [(.v 1)] 1 <|
(.op none (.f2f .f64 .f32) [(.v 2)] <|
(.out 0 [(.v 3)]))))
def T11' : T :=
(.op none (.f2f .f32 .f64) [(.v 0)] <|
(.call none 9 [(.v 1)] 1 <|
(.call none 10 [(.v 2)] 1 <|
(.out 0 [(.v 3)]))))
theorem run9 {G : Told} : ∀ ds rs, F9 ds = some rs → ∃ fuel, run G fuel T9 ds = some (0, rs) := by
  intro ds rs h
  simp only [F9] at h
  split at h <;> simp only [Option.some.injEq, reduceCtorEq] at h
  subst h
  exact ⟨0, by simp [T9, run, Guard.ok, evs, Atom.ev, Prim.ev]⟩
theorem run10 {G : Told} : ∀ ds rs, F10 ds = some rs → ∃ fuel, run G fuel T10 ds = some (0, rs) := by
  intro ds rs h
  simp only [F10] at h
  split at h
  · simp only [Option.map_eq_some_iff] at h
    obtain ⟨y, hy, rfl⟩ := h
    exact ⟨0, by simp [T10, run, Guard.ok, evs, Atom.ev, Prim.ev, hy]⟩
  · cases h
theorem run11 {G : Told} (g9 : G 9 = F9) : ∀ ds rs, F11 ds = some rs → ∃ fuel, run G fuel T11 ds = some (0, rs) := by
  intro ds rs h
  simp only [F11] at h
  split at h <;> simp only [Option.some.injEq, reduceCtorEq] at h
  subst h
  exact ⟨0, by simp [T11, run, Guard.ok, evs, Atom.ev, Prim.ev, g9, F9, f2f_wide, f2f_root]⟩
theorem run11' {G : Told} (g9 : G 9 = F9) (g10 : G 10 = F10) : ∀ ds rs, F11 ds = some rs → ∃ fuel, run G fuel T11' ds = some (0, rs) := by
  intro ds rs h
  simp only [F11] at h
  split at h <;> simp only [Option.some.injEq, reduceCtorEq] at h
  subst h
  exact ⟨0, by simp [T11', run, Guard.ok, evs, Atom.ev, Prim.ev, g9, F9, g10, F10, f2f_wide, f2f_root]⟩
end Vs

namespace Vs
open Go

abbrev c1 : CT := .b f1
abbrev pV : PK := .val true [.rd c1, .rd c1, .rd c1]
abbrev rV : Bool × List RK := (true, [.cell f1, .cell f1, .cell f1])
def innerP (a b c x y z : Nat) : Nat := fadd .f32 (fadd .f32 (fmul .f32 a x) (fmul .f32 b y)) (fmul .f32 c z)
def longP (a b c : Nat) : Nat := rootP (innerP a b c a b c)
def F14 : List D → Option (List D) | [.flt a, .flt b, .flt c, .flt x, .flt y, .flt z] => some [.flt (innerP a b c x y z)] | _ => none
def F15 : List D → Option (List D) | [.flt a, .flt b, .flt c] => some [.flt (longP a b c)] | _ => none
def F16 : List D → Option (List D) | [.flt a, .flt b, .flt c] => some [.flt a, .flt b, .flt c] | _ => none
def T14 : T :=
(.op none (.far .mul .f32) [(.v 0), (.v 3)] <|
(.op none (.far .mul .f32) [(.v 1), (.v 4)] <|
(.op none (.far .add .f32) [(.v 6), (.v 7)] <|
(.op none (.far .mul .f32) [(.v 2), (.v 5)] <|
(.op none (.far .add .f32) [(.v 8), (.v 9)] <|
(.out 0 [(.v 10)]))))))
def T15 : T :=
(.call none 14 [(.v 0), (.v 1), (.v 2), (.v 0), (.v 1), (.v 2)] 1 <|
(.call none 11 [(.v 3)] 1 <|
(.out 0 [(.v 4)])))
def T16 : T := (.out 0 [(.v 0), (.v 1), (.v 2)])
theorem run14 {G : Told} : ∀ ds rs, F14 ds = some rs → ∃ fuel, run G fuel T14 ds = some (0, rs) := by
  intro ds rs h
  simp only [F14] at h
  split at h <;> simp only [Option.some.injEq, reduceCtorEq] at h
  subst h
  exact ⟨0, by simp [T14, run, Guard.ok, evs, Atom.ev, Prim.ev, farith, innerP]⟩
theorem run15 {G : Told} (g14 : G 14 = F14) (g11 : G 11 = F11) : ∀ ds rs, F15 ds = some rs → ∃ fuel, run G fuel T15 ds = some (0, rs) := by
  intro ds rs h
  simp only [F15] at h
  split at h <;> simp only [Option.some.injEq, reduceCtorEq] at h
  subst h
  exact ⟨0, by simp [T15, run, Guard.ok, evs, Atom.ev, g14, F14, g11, F11, longP]⟩
theorem run16 {G : Told} : ∀ ds rs, F16 ds = some rs → ∃ fuel, run G fuel T16 ds = some (0, rs) := by
  intro ds rs h
  simp only [F16] at h
  split at h <;> simp only [Option.some.injEq, reduceCtorEq] at h
  subst h
  exact ⟨0, by simp [T16, run, evs, Atom.ev]⟩
end Vs

namespace Vs
open Go

end Vs

namespace Vs
open Go

structure V3 where
  x : Nat
  y : Nat
  z : Nat
def V3.add (a b : V3) : V3 := ⟨fadd .f32 a.x b.x, fadd .f32 a.y b.y, fadd .f32 a.z b.z⟩
def V3.scale (a : V3) (k : Nat) : V3 := ⟨fmul .f32 a.x k, fmul .f32 a.y k, fmul .f32 a.z k⟩
def V3.fin (a : V3) : Bool := finP a.x && finP a.y && finP a.z
def V3.ds (a : V3) : List D := [.flt a.x, .flt a.y, .flt a.z]
def part1 (x : Nat) : Nat := fdiv .f32 1065353216 x

def F18 : List D → Option (List D) | [.flt a, .flt b, .flt c] => some [.bool (V3.fin ⟨a, b, c⟩)] | _ => none
def F30 : List D → Option (List D) | [.flt a, .flt b, .flt c, .flt x, .flt y, .flt z] => some (V3.add ⟨a, b, c⟩ ⟨x, y, z⟩).ds | _ => none
def F31 : List D → Option (List D) | [.flt a, .flt b, .flt c, .flt k] => some (V3.scale ⟨a, b, c⟩ k).ds | _ => none
def T18 : T :=
(.call none 1 [(.v 0)] 1 <|
(.op (some ((.v 3), true)) .id [(.v 1)] <|
(.call (some ((.v 3), true)) 1 [(.v 4)] 1 <|
(.op none .pick [(.v 3), (.v 5), (.c (.bool false))] <|
(.op (some ((.v 6), true)) .id [(.v 2)] <|
(.call (some ((.v 6), true)) 1 [(.v 7)] 1 <|
(.op none .pick [(.v 6), (.v 8), (.c (.bool false))] <|
(.out 0 [(.v 9)]))))))))
def T30 : T :=
(.op none (.far .add .f32) [(.v 0), (.v 3)] <|
(.op none (.far .add .f32) [(.v 1), (.v 4)] <|
(.op none (.far .add .f32) [(.v 2), (.v 5)] <|
(.out 0 [(.v 6), (.v 7), (.v 8)]))))
def T31 : T :=
(.op none (.far .mul .f32) [(.v 0), (.v 3)] <|
(.op none (.far .mul .f32) [(.v 1), (.v 3)] <|
(.op none (.far .mul .f32) [(.v 2), (.v 3)] <|
(.out 0 [(.v 4), (.v 5), (.v 6)]))))

theorem run18 {G : Told} (g1 : G 1 = F1) : ∀ ds rs, F18 ds = some rs → ∃ fuel, run G fuel T18 ds = some (0, rs) := by
  intro ds rs h
  simp only [F18] at h
  split at h <;> simp only [Option.some.injEq, reduceCtorEq] at h
  subst h
  rename_i a b c
  refine ⟨0, ?_⟩
  cases h1 : finP a <;> cases h2 : finP b <;> cases h3 : finP c <;> simp [T18, run, Guard.ok, evs, Atom.ev, Prim.ev, g1, F1, V3.fin, h1, h2, h3]
theorem run30 {G : Told} : ∀ ds rs, F30 ds = some rs → ∃ fuel, run G fuel T30 ds = some (0, rs) := by
  intro ds rs h
  simp only [F30] at h
  split at h <;> simp only [Option.some.injEq, reduceCtorEq] at h
  subst h
  exact ⟨0, by simp [T30, run, Guard.ok, evs, Atom.ev, Prim.ev, farith, V3.add, V3.ds]⟩
theorem run31 {G : Told} : ∀ ds rs, F31 ds = some rs → ∃ fuel, run G fuel T31 ds = some (0, rs) := by
  intro ds rs h
  simp only [F31] at h
  split at h <;> simp only [Option.some.injEq, reduceCtorEq] at h
  subst h
  exact ⟨0, by simp [T31, run, Guard.ok, evs, Atom.ev, Prim.ev, farith, V3.scale, V3.ds]⟩

attribute [local irreducible] fadd fsub fmul fdiv finP feq flt fle rootP longP innerP

end Vs

namespace Vs
open Go

attribute [local irreducible] sameP wide

end Vs

namespace Vs
open Go

theorem wrapU {i : Int} (h0 : 0 ≤ i) (h : i < 4611686018427387904) : IntKind.wrap .i64 (i + 1) = i + 1 := by
  simp only [IntKind.wrap, IntKind.bits, IntKind.signed]
  have : (i + 1) % 2 ^ 64 = i + 1 := Int.emod_eq_of_lt (by omega) (by omega)
  simp only [this]
  split
  · rename_i h
    simp at h
    omega
  · rfl
theorem tb {m : Nat} {k : List D → Option (Nat × List D)} {ds : List D} {X : Option (Nat × List D)} (h : ds.length = m) (hk : k ds = X) : tbody m k ds = X := by simp [tbody, h, hk]
/-- Marks: whole numbers from m on. -/
def mk : Int → Nat → List D
  | _, 0 => []
  | m, n + 1 => .int m :: mk (m + 1) n
end Vs

