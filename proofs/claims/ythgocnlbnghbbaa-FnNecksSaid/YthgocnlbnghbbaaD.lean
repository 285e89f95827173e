/-
  Laws of the plain functions of films: what the functions compute, and that the texts of the executor compute it.
-/
import Derived.Test.YthgocnlbnghbbaaE
namespace Vs
open Go

/-! ### What they compute -/
def finP (x : Nat) : Bool := feq .f32 (fsub .f32 x x) 0
def overP (x : Nat) : Bool := finP x && fgt .f32 x 0
def F1 : List D → Option (List D) | [.flt x] => some [.bool (finP x)] | _ => none
def F2 : List D → Option (List D) | [.flt x] => some [.bool (overP x)] | _ => none
def F3 : List D → Option (List D) | [.flt x] => some (if overP x then [.flt (fmul .f32 1068083597 x), .bool true] else [.flt 0, .bool false]) | _ => none
def F7 : List D → Option (List D) | [.flt x] => some (if overP x then [.flt (fmul .f32 (fmul .f32 1086918619 x) x), .bool true] else [.flt 0, .bool false]) | _ => none
/-! ### The texts -/
def T1 : T :=
(.op none (.far .sub .f32) [(.v 0), (.v 0)] <|
(.op none (.fcm .eql .f32) [(.v 1), (.c (.flt 0))] <|
(.out 0 [(.v 2)])))
def T2 : T :=
(.call none 1 [(.v 0)] 1 <|
(.op (some ((.v 1), true)) .id [(.v 0)] <|
(.op (some ((.v 1), true)) (.fcm .gtr .f32) [(.v 2), (.c (.flt 0))] <|
(.op none .pick [(.v 1), (.v 3), (.c (.bool false))] <|
(.out 0 [(.v 4)])))))
def T3 : T :=
(.call none 2 [(.v 0)] 1 <|
(.op none .bnot [(.v 1)] <|
(.ite (.v 2)
  (.out 0 [(.c (.flt 0)), (.c (.bool false))])
  (.op none (.far .mul .f32) [(.c (.flt 1068083597)), (.v 0)] <|
  (.out 0 [(.v 3), (.c (.bool true))])))))
theorem run1 {G : Told} : ∀ ds rs, F1 ds = some rs → ∃ fuel, run G fuel T1 ds = some (0, rs) := by
  intro ds rs h
  simp only [F1] at h
  split at h <;> simp only [Option.some.injEq, reduceCtorEq] at h
  subst h
  exact ⟨0, by simp [T1, run, Guard.ok, evs, Atom.ev, Prim.ev, farith, fcmp, finP]⟩

theorem run2 {G : Told} (g1 : G 1 = F1) : ∀ ds rs, F2 ds = some rs → ∃ fuel, run G fuel T2 ds = some (0, rs) := by
  intro ds rs h
  simp only [F2] at h
  split at h <;> simp only [Option.some.injEq, reduceCtorEq] at h
  subst h
  rename_i x
  refine ⟨0, ?_⟩
  cases h1 : finP x <;> simp [T2, run, Guard.ok, evs, Atom.ev, Prim.ev, fcmp, g1, F1, overP, h1]

theorem run3 {G : Told} (g2 : G 2 = F2) : ∀ ds rs, F3 ds = some rs → ∃ fuel, run G fuel T3 ds = some (0, rs) := by
  intro ds rs h
  simp only [F3] at h
  split at h <;> simp only [Option.some.injEq, reduceCtorEq] at h
  subst h
  rename_i x
  refine ⟨0, ?_⟩
  cases h1 : overP x <;> simp [T3, run, Guard.ok, evs, Atom.ev, Prim.ev, farith, g2, F2, h1]

def T7' : T :=
(.call none 2 [(.v 0)] 1 <|
(.op none .bnot [(.v 1)] <|
(.ite (.v 2)
  (.out 0 [(.c (.flt 0)), (.c (.bool false))])
  (.op none (.far .mul .f32) [(.c (.flt 1073741824)), (.c (.flt 1078530011))] <|
  (.op none (.far .mul .f32) [(.v 3), (.v 0)] <|
  (.op none (.far .mul .f32) [(.v 4), (.v 0)] <|
  (.out 0 [(.v 5), (.c (.bool true))])))))))
theorem two_pi : fmul .f32 1073741824 1078530011 = 1086918619 := by decide +kernel

theorem run7' {G : Told} (g2 : G 2 = F2) : ∀ ds rs, F7 ds = some rs → ∃ fuel, run G fuel T7' ds = some (0, rs) := by
  intro ds rs h
  simp only [F7] at h
  split at h <;> simp only [Option.some.injEq, reduceCtorEq] at h
  subst h
  rename_i x
  refine ⟨0, ?_⟩
  cases h1 : overP x <;> simp [T7', run, Guard.ok, evs, Atom.ev, Prim.ev, farith, g2, F2, h1, two_pi]

/-! ### The laws' own texts -/
end Vs

namespace Vs
open Go

def F9 : List D → Option (List D) | [.flt x] => some [.flt (fsqrt .f64 x)] | _ => none
def F11 : List D → Option (List D) | [.flt x] => some [.flt (rootP x)] | _ => none
def T9 : T :=
(.op none (.sqrt .f64) [(.v 0)] <|
(.out 0 [(.v 1)]))
def T11 : T :=
(.op none (.f2f .f32 .f64) [(.v 0)] <|
(.call none 9 [(.v 1)] 1 <|
(.op none (.f2f .f64 .f32) [(.v 2)] <|
(.out 0 [(.v 3)]))))
theorem run9 {G : Told} : ∀ ds rs, F9 ds = some rs → ∃ fuel, run G fuel T9 ds = some (0, rs) := by
  intro ds rs h
  simp only [F9] at h
  split at h <;> simp only [Option.some.injEq, reduceCtorEq] at h
  subst h
  exact ⟨0, by simp [T9, run, Guard.ok, evs, Atom.ev, Prim.ev]⟩
theorem run11 {G : Told} (g9 : G 9 = F9) : ∀ ds rs, F11 ds = some rs → ∃ fuel, run G fuel T11 ds = some (0, rs) := by
  intro ds rs h
  simp only [F11] at h
  split at h <;> simp only [Option.some.injEq, reduceCtorEq] at h
  subst h
  exact ⟨0, by simp [T11, run, Guard.ok, evs, Atom.ev, Prim.ev, g9, F9, f2f_wide, f2f_root]⟩
end Vs

namespace Vs
open Go

abbrev c1 : CT := .b f1
abbrev pV : PK := .val true [.rd c1, .rd c1, .rd c1]
def innerP (a b c x y z : Nat) : Nat := fadd .f32 (fadd .f32 (fmul .f32 a x) (fmul .f32 b y)) (fmul .f32 c z)
def longP (a b c : Nat) : Nat := rootP (innerP a b c a b c)
def F14 : List D → Option (List D) | [.flt a, .flt b, .flt c, .flt x, .flt y, .flt z] => some [.flt (innerP a b c x y z)] | _ => none
def F15 : List D → Option (List D) | [.flt a, .flt b, .flt c] => some [.flt (longP a b c)] | _ => none
def T14 : T :=
(.op none (.far .mul .f32) [(.v 0), (.v 3)] <|
(.op none (.far .mul .f32) [(.v 1), (.v 4)] <|
(.op none (.far .add .f32) [(.v 6), (.v 7)] <|
(.op none (.far .mul .f32) [(.v 2), (.v 5)] <|
(.op none (.far .add .f32) [(.v 8), (.v 9)] <|
(.out 0 [(.v 10)]))))))
def T15 : T :=
(.call none 14 [(.v 0), (.v 1), (.v 2), (.v 0), (.v 1), (.v 2)] 1 <|
(.call none 11 [(.v 3)] 1 <|
(.out 0 [(.v 4)])))
theorem run14 {G : Told} : ∀ ds rs, F14 ds = some rs → ∃ fuel, run G fuel T14 ds = some (0, rs) := by
  intro ds rs h
  simp only [F14] at h
  split at h <;> simp only [Option.some.injEq, reduceCtorEq] at h
  subst h
  exact ⟨0, by simp [T14, run, Guard.ok, evs, Atom.ev, Prim.ev, farith, innerP]⟩
theorem run15 {G : Told} (g14 : G 14 = F14) (g11 : G 11 = F11) : ∀ ds rs, F15 ds = some rs → ∃ fuel, run G fuel T15 ds = some (0, rs) := by
  intro ds rs h
  simp only [F15] at h
  split at h <;> simp only [Option.some.injEq, reduceCtorEq] at h
  subst h
  exact ⟨0, by simp [T15, run, Guard.ok, evs, Atom.ev, g14, F14, g11, F11, longP]⟩
end Vs

namespace Vs
open Go

end Vs

namespace Vs
open Go

structure V3 where
  x : Nat
  y : Nat
  z : Nat
def V3.add (a b : V3) : V3 := ⟨fadd .f32 a.x b.x, fadd .f32 a.y b.y, fadd .f32 a.z b.z⟩
def V3.fin (a : V3) : Bool := finP a.x && finP a.y && finP a.z
def V3.ds (a : V3) : List D := [.flt a.x, .flt a.y, .flt a.z]
def F19 : List D → Option (List D) | [.int n, .int a, .int b] => some [.bool (decide (a ≤ n) && decide (n ≤ b))] | _ => none
def T19 : T :=
(.op none (.icm .geq) [(.v 0), (.v 1)] <|
(.op (some ((.v 3), true)) .id [(.v 0)] <|
(.op (some ((.v 3), true)) .id [(.v 2)] <|
(.op (some ((.v 3), true)) (.icm .leq) [(.v 4), (.v 5)] <|
(.op none .pick [(.v 3), (.v 6), (.c (.bool false))] <|
(.out 0 [(.v 7)]))))))
theorem run19 {G : Told} : ∀ ds rs, F19 ds = some rs → ∃ fuel, run G fuel T19 ds = some (0, rs) := by
  intro ds rs h
  simp only [F19] at h
  split at h <;> simp only [Option.some.injEq, reduceCtorEq] at h
  subst h
  rename_i n a b
  refine ⟨0, ?_⟩
  by_cases h1 : a ≤ n <;> simp [T19, run, Guard.ok, evs, Atom.ev, Prim.ev, icmp, h1]
theorem wrap_small {i : Int} (h0 : 0 ≤ i) (h1 : i ≤ 1000000) : IntKind.wrap .i64 i = i := by
  simp only [IntKind.wrap, IntKind.bits, IntKind.signed]
  have : i % 2 ^ 64 = i := Int.emod_eq_of_lt h0 (by omega)
  simp only [this]
  split
  · rename_i h
    simp at h
    omega
  · rfl

attribute [local irreducible] fadd fsub fmul fdiv finP feq flt fle rootP longP innerP

end Vs

namespace Vs
open Go

attribute [local irreducible] wide

end Vs

namespace Vs
open Go

theorem wrapU {i : Int} (h0 : 0 ≤ i) (h : i < 4611686018427387904) : IntKind.wrap .i64 (i + 1) = i + 1 := by
  simp only [IntKind.wrap, IntKind.bits, IntKind.signed]
  have : (i + 1) % 2 ^ 64 = i + 1 := Int.emod_eq_of_lt (by omega) (by omega)
  simp only [this]
  split
  · rename_i h
    simp at h
    omega
  · rfl
theorem tb {m : Nat} {k : List D → Option (Nat × List D)} {ds : List D} {X : Option (Nat × List D)} (h : ds.length = m) (hk : k ds = X) : tbody m k ds = X := by simp [tbody, h, hk]
/-- Marks: whole numbers from m on. -/
def mk : Int → Nat → List D
  | _, 0 => []
  | m, n + 1 => .int m :: mk (m + 1) n
end Vs

