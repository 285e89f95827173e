/-
  Laws of the plain functions of films: what the functions compute, and that the texts of the executor compute it.
-/
import Derived.Test.YthgocnlbnghbbaaC
namespace Vs
open Go

/-! ### What they compute -/
def finP (x : Nat) : Bool := feq .f32 (fsub .f32 x x) 0
def overP (x : Nat) : Bool := finP x && fgt .f32 x 0
def sameP (x y : Nat) : Bool :=
  if !feq .f64 x x || !feq .f64 y y then !feq .f64 x x && !feq .f64 y y
  else if feq .f64 x 0 && feq .f64 y 0 then (fgt .f64 (fdiv .f64 4607182418800017408 x) 0 == fgt .f64 (fdiv .f64 4607182418800017408 y) 0)
  else feq .f64 x y
theorem sameP_self (x : Nat) : sameP x x = true := by
  unfold sameP
  cases h : feq .f64 x x <;> simp

def F1 : List D → Option (List D) | [.flt x] => some [.bool (finP x)] | _ => none
def F2 : List D → Option (List D) | [.flt x] => some [.bool (overP x)] | _ => none
def F4 : List D → Option (List D) | [.flt x, .flt y] => some [.bool (sameP x y)] | _ => none
/-! ### The texts -/
def T1 : T :=
(.op none (.far .sub .f32) [(.v 0), (.v 0)] <|
(.op none (.fcm .eql .f32) [(.v 1), (.c (.flt 0))] <|
(.out 0 [(.v 2)])))
def T2 : T :=
(.call none 1 [(.v 0)] 1 <|
(.op (some ((.v 1), true)) .id [(.v 0)] <|
(.op (some ((.v 1), true)) (.fcm .gtr .f32) [(.v 2), (.c (.flt 0))] <|
(.op none .pick [(.v 1), (.v 3), (.c (.bool false))] <|
(.out 0 [(.v 4)])))))
def T4 : T :=
(.op none (.fcm .neq .f64) [(.v 0), (.v 0)] <|
(.op (some ((.v 2), false)) .id [(.v 1)] <|
(.op (some ((.v 2), false)) .id [(.v 1)] <|
(.op (some ((.v 2), false)) (.fcm .neq .f64) [(.v 3), (.v 4)] <|
(.op none .pick [(.v 2), (.c (.bool true)), (.v 5)] <|
(.ite (.v 6)
  (.op none (.fcm .neq .f64) [(.v 0), (.v 0)] <|
  (.op (some ((.v 7), true)) .id [(.v 1)] <|
  (.op (some ((.v 7), true)) .id [(.v 1)] <|
  (.op (some ((.v 7), true)) (.fcm .neq .f64) [(.v 8), (.v 9)] <|
  (.op none .pick [(.v 7), (.v 10), (.c (.bool false))] <|
  (.out 0 [(.v 11)]))))))
  (.op none (.fcm .eql .f64) [(.v 0), (.c (.flt 0))] <|
  (.op (some ((.v 7), true)) .id [(.v 1)] <|
  (.op (some ((.v 7), true)) (.fcm .eql .f64) [(.v 8), (.c (.flt 0))] <|
  (.op none .pick [(.v 7), (.v 9), (.c (.bool false))] <|
  (.ite (.v 10)
    (.op none (.far .quo .f64) [(.c (.flt 4607182418800017408)), (.v 0)] <|
    (.op none (.fcm .gtr .f64) [(.v 11), (.c (.flt 0))] <|
    (.op none (.far .quo .f64) [(.c (.flt 4607182418800017408)), (.v 1)] <|
    (.op none (.fcm .gtr .f64) [(.v 13), (.c (.flt 0))] <|
    (.op none .beq [(.v 12), (.v 14)] <|
    (.out 0 [(.v 15)]))))))
    (.op none (.fcm .eql .f64) [(.v 0), (.v 1)] <|
    (.out 0 [(.v 11)])))))))))))))

theorem run1 {G : Told} : ∀ ds rs, F1 ds = some rs → ∃ fuel, run G fuel T1 ds = some (0, rs) := by
  intro ds rs h
  simp only [F1] at h
  split at h <;> simp only [Option.some.injEq, reduceCtorEq] at h
  subst h
  exact ⟨0, by simp [T1, run, Guard.ok, evs, Atom.ev, Prim.ev, farith, fcmp, finP]⟩

theorem run2 {G : Told} (g1 : G 1 = F1) : ∀ ds rs, F2 ds = some rs → ∃ fuel, run G fuel T2 ds = some (0, rs) := by
  intro ds rs h
  simp only [F2] at h
  split at h <;> simp only [Option.some.injEq, reduceCtorEq] at h
  subst h
  rename_i x
  refine ⟨0, ?_⟩
  cases h1 : finP x <;> simp [T2, run, Guard.ok, evs, Atom.ev, Prim.ev, fcmp, g1, F1, overP, h1]

theorem run4 {G : Told} : ∀ ds rs, F4 ds = some rs → ∃ fuel, run G fuel T4 ds = some (0, rs) := by
  intro ds rs h
  simp only [F4] at h
  split at h <;> simp only [Option.some.injEq, reduceCtorEq] at h
  subst h
  rename_i x y
  refine ⟨0, ?_⟩
  cases h1 : feq .f64 x x <;> cases h2 : feq .f64 y y <;> cases h3 : feq .f64 x 0 <;> cases h4 : feq .f64 y 0 <;>
    simp [T4, run, Guard.ok, evs, Atom.ev, Prim.ev, farith, fcmp, sameP, h1, h2, h3, h4]

/-! ### The laws' own texts -/
end Vs

namespace Vs
open Go

def F10 : List D → Option (List D) | [.flt x] => (f2f .f64 .f32 x).map fun y => [.flt y] | _ => none
def T10 : T :=
(.op none (.f2f .f64 .f32) [(.v 0)] <|
(.out 0 [(.v 1)]))
theorem run10 {G : Told} : ∀ ds rs, F10 ds = some rs → ∃ fuel, run G fuel T10 ds = some (0, rs) := by
  intro ds rs h
  simp only [F10] at h
  split at h
  · simp only [Option.map_eq_some_iff] at h
    obtain ⟨y, hy, rfl⟩ := h
    exact ⟨0, by simp [T10, run, Guard.ok, evs, Atom.ev, Prim.ev, hy]⟩
  · cases h
end Vs

namespace Vs
open Go

abbrev c1 : CT := .b f1
end Vs

namespace Vs
open Go

end Vs

namespace Vs
open Go

structure V3 where
  x : Nat
  y : Nat
  z : Nat
def V3.add (a b : V3) : V3 := ⟨fadd .f32 a.x b.x, fadd .f32 a.y b.y, fadd .f32 a.z b.z⟩
def V3.fin (a : V3) : Bool := finP a.x && finP a.y && finP a.z
def V3.ds (a : V3) : List D := [.flt a.x, .flt a.y, .flt a.z]
theorem wrap_small {i : Int} (h0 : 0 ≤ i) (h1 : i ≤ 1000000) : IntKind.wrap .i64 i = i := by
  simp only [IntKind.wrap, IntKind.bits, IntKind.signed]
  have : i % 2 ^ 64 = i := Int.emod_eq_of_lt h0 (by omega)
  simp only [this]
  split
  · rename_i h
    simp at h
    omega
  · rfl

attribute [local irreducible] fadd fsub fmul fdiv finP feq flt fle rootP

end Vs

namespace Vs
open Go

attribute [local irreducible] sameP wide

end Vs

namespace Vs
open Go

theorem wrapU {i : Int} (h0 : 0 ≤ i) (h : i < 4611686018427387904) : IntKind.wrap .i64 (i + 1) = i + 1 := by
  simp only [IntKind.wrap, IntKind.bits, IntKind.signed]
  have : (i + 1) % 2 ^ 64 = i + 1 := Int.emod_eq_of_lt (by omega) (by omega)
  simp only [this]
  split
  · rename_i h
    simp at h
    omega
  · rfl
theorem tb {m : Nat} {k : List D → Option (Nat × List D)} {ds : List D} {X : Option (Nat × List D)} (h : ds.length = m) (hk : k ds = X) : tbody m k ds = X := by simp [tbody, h, hk]
/-- Marks: whole numbers from m on. -/
def mk : Int → Nat → List D
  | _, 0 => []
  | m, n + 1 => .int m :: mk (m + 1) n
end Vs

