/-
  Laws of the plain functions of films: what the functions compute, and that the texts of the executor compute it.
-/
import Derived.Test.YthgocnlbnghbbaaC
namespace Vs
open Go

/-! ### What they compute -/
def finP (x : Nat) : Bool := feq .f32 (fsub .f32 x x) 0
def overP (x : Nat) : Bool := finP x && fgt .f32 x 0
def F1 : List D → Option (List D) | [.flt x] => some [.bool (finP x)] | _ => none
def F2 : List D → Option (List D) | [.flt x] => some [.bool (overP x)] | _ => none
def F5 : List D → Option (List D) | [.flt x, .flt y] => some (if finP x && overP y then [.flt (fdiv .f32 (fmul .f32 1082130432 x) y), .bool true] else [.flt 0, .bool false]) | _ => none
def wallP (x y : Nat) : Nat :=
  let d := fsub .f32 x y
  if Vs.flt .f32 d 0 then fdiv .f32 (fmul .f32 x y) (fneg .f32 d) else fdiv .f32 (fmul .f32 x y) d
def F8 : List D → Option (List D) | [.flt x, .flt y] => some (if overP x && overP y && !feq .f32 x y then [.flt (wallP x y), .bool true] else [.flt 0, .bool false]) | _ => none
/-! ### The texts -/
def T1 : T :=
(.op none (.far .sub .f32) [(.v 0), (.v 0)] <|
(.op none (.fcm .eql .f32) [(.v 1), (.c (.flt 0))] <|
(.out 0 [(.v 2)])))
def T2 : T :=
(.call none 1 [(.v 0)] 1 <|
(.op (some ((.v 1), true)) .id [(.v 0)] <|
(.op (some ((.v 1), true)) (.fcm .gtr .f32) [(.v 2), (.c (.flt 0))] <|
(.op none .pick [(.v 1), (.v 3), (.c (.bool false))] <|
(.out 0 [(.v 4)])))))
theorem run1 {G : Told} : ∀ ds rs, F1 ds = some rs → ∃ fuel, run G fuel T1 ds = some (0, rs) := by
  intro ds rs h
  simp only [F1] at h
  split at h <;> simp only [Option.some.injEq, reduceCtorEq] at h
  subst h
  exact ⟨0, by simp [T1, run, Guard.ok, evs, Atom.ev, Prim.ev, farith, fcmp, finP]⟩

theorem run2 {G : Told} (g1 : G 1 = F1) : ∀ ds rs, F2 ds = some rs → ∃ fuel, run G fuel T2 ds = some (0, rs) := by
  intro ds rs h
  simp only [F2] at h
  split at h <;> simp only [Option.some.injEq, reduceCtorEq] at h
  subst h
  rename_i x
  refine ⟨0, ?_⟩
  cases h1 : finP x <;> simp [T2, run, Guard.ok, evs, Atom.ev, Prim.ev, fcmp, g1, F1, overP, h1]

def T5 : T :=
(.call none 1 [(.v 0)] 1 <|
(.op none .bnot [(.v 2)] <|
(.op (some ((.v 3), false)) .id [(.v 1)] <|
(.call (some ((.v 3), false)) 2 [(.v 4)] 1 <|
(.op (some ((.v 3), false)) .bnot [(.v 5)] <|
(.op none .pick [(.v 3), (.c (.bool true)), (.v 6)] <|
(.ite (.v 7)
  (.out 0 [(.c (.flt 0)), (.c (.bool false))])
  (.op none (.far .mul .f32) [(.c (.flt 1082130432)), (.v 0)] <|
  (.op none (.far .quo .f32) [(.v 8), (.v 1)] <|
  (.out 0 [(.v 9), (.c (.bool true))]))))))))))
theorem run5 {G : Told} (g1 : G 1 = F1) (g2 : G 2 = F2) : ∀ ds rs, F5 ds = some rs → ∃ fuel, run G fuel T5 ds = some (0, rs) := by
  intro ds rs h
  simp only [F5] at h
  split at h <;> simp only [Option.some.injEq, reduceCtorEq] at h
  subst h
  rename_i x y
  refine ⟨0, ?_⟩
  cases h1 : finP x <;> cases h2 : overP y <;> simp [T5, run, Guard.ok, evs, Atom.ev, Prim.ev, farith, g1, g2, F1, F2, h1, h2]

/-! ### The laws' own texts -/
end Vs

namespace Vs
open Go

end Vs

namespace Vs
open Go

abbrev c1 : CT := .b f1
end Vs

namespace Vs
open Go

end Vs

namespace Vs
open Go

structure V3 where
  x : Nat
  y : Nat
  z : Nat
def V3.add (a b : V3) : V3 := ⟨fadd .f32 a.x b.x, fadd .f32 a.y b.y, fadd .f32 a.z b.z⟩
def V3.ds (a : V3) : List D := [.flt a.x, .flt a.y, .flt a.z]
theorem wrap_small {i : Int} (h0 : 0 ≤ i) (h1 : i ≤ 1000000) : IntKind.wrap .i64 i = i := by
  simp only [IntKind.wrap, IntKind.bits, IntKind.signed]
  have : i % 2 ^ 64 = i := Int.emod_eq_of_lt h0 (by omega)
  simp only [this]
  split
  · rename_i h
    simp at h
    omega
  · rfl

attribute [local irreducible] fadd fsub fmul fdiv finP feq flt fle rootP

end Vs

namespace Vs
open Go

attribute [local irreducible] wide

end Vs

namespace Vs
open Go

theorem tb {m : Nat} {k : List D → Option (Nat × List D)} {ds : List D} {X : Option (Nat × List D)} (h : ds.length = m) (hk : k ds = X) : tbody m k ds = X := by simp [tbody, h, hk]
/-- Marks: whole numbers from m on. -/
def mk : Int → Nat → List D
  | _, 0 => []
  | m, n + 1 => .int m :: mk (m + 1) n
end Vs

