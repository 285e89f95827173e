/-
  The square root, and swings.
-/
import Derived.Test.YtfpmhmngebnphaaM1
import Derived.Test.YtfpmhmngebnphaaMf2
namespace Vs
open Go

def sg8 : Sig := ⟨[pv f8], [rv f8]⟩
def sg81 : Sig := ⟨[pv f8], [rv f1]⟩

def F9 : List D → Option (List D) | [.flt x] => some [.flt (fsqrt .f64 x)] | _ => none
def F10 : List D → Option (List D) | [.flt x] => (f2f .f64 .f32 x).map fun y => [.flt y] | _ => none
def F11 : List D → Option (List D) | [.flt x] => some [.flt (rootP x)] | _ => none
def F12 : List D → Option (List D) | [.flt x, .flt y] => some (if fge .f32 x 0 && overP y then [.flt (rootP (fdiv .f32 x y)), .bool true] else [.flt 0, .bool false]) | _ => none

def T9 : T :=
(.op none (.sqrt .f64) [(.v 0)] <|
(.out 0 [(.v 1)]))
def T10 : T :=
(.op none (.f2f .f64 .f32) [(.v 0)] <|
(.out 0 [(.v 1)]))
def T11 : T :=
(.op none (.f2f .f32 .f64) [(.v 0)] <|
(.call none 9 [(.v 1)] 1 <|
(.op none (.f2f .f64 .f32) [(.v 2)] <|
(.out 0 [(.v 3)]))))
def T11' : T :=
(.op none (.f2f .f32 .f64) [(.v 0)] <|
(.call none 9 [(.v 1)] 1 <|
(.call none 10 [(.v 2)] 1 <|
(.out 0 [(.v 3)]))))
def T12 : T :=
(.op none (.fcm .geq .f32) [(.v 0), (.c (.flt 0))] <|
(.op none .bnot [(.v 2)] <|
(.op (some ((.v 3), false)) .id [(.v 1)] <|
(.call (some ((.v 3), false)) 2 [(.v 4)] 1 <|
(.op (some ((.v 3), false)) .bnot [(.v 5)] <|
(.op none .pick [(.v 3), (.c (.bool true)), (.v 6)] <|
(.ite (.v 7)
  (.out 0 [(.c (.flt 0)), (.c (.bool false))])
  (.op none (.far .quo .f32) [(.v 0), (.v 1)] <|
  (.call none 11 [(.v 8)] 1 <|
  (.out 0 [(.v 9), (.c (.bool true))]))))))))))

theorem run9 {G : Told} : ∀ ds rs, F9 ds = some rs → ∃ fuel, run G fuel T9 ds = some (0, rs) := by
  intro ds rs h
  simp only [F9] at h
  split at h <;> simp only [Option.some.injEq, reduceCtorEq] at h
  subst h
  exact ⟨0, by simp [T9, run, Guard.ok, evs, Atom.ev, Prim.ev]⟩
theorem run10 {G : Told} : ∀ ds rs, F10 ds = some rs → ∃ fuel, run G fuel T10 ds = some (0, rs) := by
  intro ds rs h
  simp only [F10] at h
  split at h
  · simp only [Option.map_eq_some_iff] at h
    obtain ⟨y, hy, rfl⟩ := h
    exact ⟨0, by simp [T10, run, Guard.ok, evs, Atom.ev, Prim.ev, hy]⟩
  · cases h
theorem run11 {G : Told} (g9 : G 9 = F9) : ∀ ds rs, F11 ds = some rs → ∃ fuel, run G fuel T11 ds = some (0, rs) := by
  intro ds rs h
  simp only [F11] at h
  split at h <;> simp only [Option.some.injEq, reduceCtorEq] at h
  subst h
  exact ⟨0, by simp [T11, run, Guard.ok, evs, Atom.ev, Prim.ev, g9, F9, f2f_wide, f2f_root]⟩
theorem run11' {G : Told} (g9 : G 9 = F9) (g10 : G 10 = F10) : ∀ ds rs, F11 ds = some rs → ∃ fuel, run G fuel T11' ds = some (0, rs) := by
  intro ds rs h
  simp only [F11] at h
  split at h <;> simp only [Option.some.injEq, reduceCtorEq] at h
  subst h
  exact ⟨0, by simp [T11', run, Guard.ok, evs, Atom.ev, Prim.ev, g9, F9, g10, F10, f2f_wide, f2f_root]⟩
theorem run12 {G : Told} (g2 : G 2 = F2) (g11 : G 11 = F11) : ∀ ds rs, F12 ds = some rs → ∃ fuel, run G fuel T12 ds = some (0, rs) := by
  intro ds rs h
  simp only [F12] at h
  split at h <;> simp only [Option.some.injEq, reduceCtorEq] at h
  subst h
  rename_i x y
  refine ⟨0, ?_⟩
  cases h1 : fge .f32 x 0 <;> cases h2 : overP y <;> simp [T12, run, Guard.ok, evs, Atom.ev, Prim.ev, farith, fcmp, g2, F2, g11, F11, h1, h2]
theorem two12 (x y : Nat) : ∃ a b, F12 [.flt x, .flt y] = some [.flt a, .bool b] := by
  simp only [F12]
  split <;> exact ⟨_, _, rfl⟩

end Vs
