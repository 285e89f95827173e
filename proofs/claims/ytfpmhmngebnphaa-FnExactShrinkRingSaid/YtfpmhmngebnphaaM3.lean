/-
  Vectors and paths.
-/
import Derived.Test.YtfpmhmngebnphaaM2
namespace Vs
open Go

abbrev c1 : CT := .b f1
abbrev pV : PK := .val true [.rd c1, .rd c1, .rd c1]
abbrev rV : Bool × List RK := (true, [.cell f1, .cell f1, .cell f1])
def sgVV : Sig := ⟨[pV, pV], [rV]⟩
def sgVVf : Sig := ⟨[pV, pV], [rv f1]⟩
def sgVf : Sig := ⟨[pV], [rv f1]⟩
def sgV : Sig := ⟨[pV], [rV]⟩
def sg4f : Sig := ⟨[pV, pV, pV, pV], [rv f1]⟩
def sg4B : Sig := ⟨[pV, pV, pV, pV], [rv .bool]⟩

def innerP (a b c x y z : Nat) : Nat := fadd .f32 (fadd .f32 (fmul .f32 a x) (fmul .f32 b y)) (fmul .f32 c z)
def longP (a b c : Nat) : Nat := rootP (innerP a b c a b c)
def awayP (a b c x y z : Nat) : Nat := longP (fsub .f32 a x) (fsub .f32 b y) (fsub .f32 c z)

def F13 : List D → Option (List D) | [.flt a, .flt b, .flt c, .flt x, .flt y, .flt z] => some [.flt (fsub .f32 a x), .flt (fsub .f32 b y), .flt (fsub .f32 c z)] | _ => none
def F14 : List D → Option (List D) | [.flt a, .flt b, .flt c, .flt x, .flt y, .flt z] => some [.flt (innerP a b c x y z)] | _ => none
def F15 : List D → Option (List D) | [.flt a, .flt b, .flt c] => some [.flt (longP a b c)] | _ => none
def F16 : List D → Option (List D) | [.flt a, .flt b, .flt c] => some [.flt a, .flt b, .flt c] | _ => none
def F17 : List D → Option (List D)
  | [.flt p, .flt q, .flt r, .flt a, .flt b, .flt c, .flt d, .flt e, .flt f, .flt x, .flt y, .flt z] => some [.flt (fadd .f32 (fadd .f32 (awayP p q r a b c) (awayP p q r d e f)) (awayP p q r x y z))]
  | _ => none
def F22 : List D → Option (List D)
  | [.flt _, .flt _, .flt _, .flt _, .flt _, .flt _, .flt _, .flt _, .flt _, .flt _, .flt _, .flt _] => some [.bool true]
  | _ => none

def T13 : T :=
(.op none (.far .sub .f32) [(.v 0), (.v 3)] <|
(.op none (.far .sub .f32) [(.v 1), (.v 4)] <|
(.op none (.far .sub .f32) [(.v 2), (.v 5)] <|
(.out 0 [(.v 6), (.v 7), (.v 8)]))))
def T14 : T :=
(.op none (.far .mul .f32) [(.v 0), (.v 3)] <|
(.op none (.far .mul .f32) [(.v 1), (.v 4)] <|
(.op none (.far .add .f32) [(.v 6), (.v 7)] <|
(.op none (.far .mul .f32) [(.v 2), (.v 5)] <|
(.op none (.far .add .f32) [(.v 8), (.v 9)] <|
(.out 0 [(.v 10)]))))))
def T15 : T :=
(.call none 14 [(.v 0), (.v 1), (.v 2), (.v 0), (.v 1), (.v 2)] 1 <|
(.call none 11 [(.v 3)] 1 <|
(.out 0 [(.v 4)])))
def T16 : T := (.out 0 [(.v 0), (.v 1), (.v 2)])
def T17 : T :=
(.call none 13 [(.v 0), (.v 1), (.v 2), (.v 3), (.v 4), (.v 5)] 3 <|
(.call none 15 [(.v 12), (.v 13), (.v 14)] 1 <|
(.call none 13 [(.v 0), (.v 1), (.v 2), (.v 6), (.v 7), (.v 8)] 3 <|
(.call none 15 [(.v 16), (.v 17), (.v 18)] 1 <|
(.op none (.far .add .f32) [(.v 15), (.v 19)] <|
(.call none 13 [(.v 0), (.v 1), (.v 2), (.v 9), (.v 10), (.v 11)] 3 <|
(.call none 15 [(.v 21), (.v 22), (.v 23)] 1 <|
(.op none (.far .add .f32) [(.v 20), (.v 24)] <|
(.out 0 [(.v 25)])))))))))
def T22 : T :=
(.call none 16 [(.v 0), (.v 1), (.v 2)] 3 <|
(.call none 16 [(.v 3), (.v 4), (.v 5)] 3 <|
(.call none 16 [(.v 6), (.v 7), (.v 8)] 3 <|
(.call none 16 [(.v 9), (.v 10), (.v 11)] 3 <|
(.call none 17 [(.v 12), (.v 13), (.v 14), (.v 15), (.v 16), (.v 17), (.v 18), (.v 19), (.v 20), (.v 21), (.v 22), (.v 23)] 1 <|
(.call none 16 [(.v 0), (.v 1), (.v 2)] 3 <|
(.call none 16 [(.v 3), (.v 4), (.v 5)] 3 <|
(.call none 16 [(.v 6), (.v 7), (.v 8)] 3 <|
(.call none 16 [(.v 9), (.v 10), (.v 11)] 3 <|
(.call none 17 [(.v 25), (.v 26), (.v 27), (.v 28), (.v 29), (.v 30), (.v 31), (.v 32), (.v 33), (.v 34), (.v 35), (.v 36)] 1 <|
(.op none (.f2f .f32 .f64) [(.v 37)] <|
(.op none (.f2f .f32 .f64) [(.v 24)] <|
(.call none 4 [(.v 38), (.v 39)] 1 <|
(.op none .bnot [(.v 40)] <|
(.ite (.v 41)
  (.out 0 [(.c (.bool false))])
  (.out 0 [(.c (.bool true))]))))))))))))))))

theorem run13 {G : Told} : ∀ ds rs, F13 ds = some rs → ∃ fuel, run G fuel T13 ds = some (0, rs) := by
  intro ds rs h
  simp only [F13] at h
  split at h <;> simp only [Option.some.injEq, reduceCtorEq] at h
  subst h
  exact ⟨0, by simp [T13, run, Guard.ok, evs, Atom.ev, Prim.ev, farith]⟩
theorem run14 {G : Told} : ∀ ds rs, F14 ds = some rs → ∃ fuel, run G fuel T14 ds = some (0, rs) := by
  intro ds rs h
  simp only [F14] at h
  split at h <;> simp only [Option.some.injEq, reduceCtorEq] at h
  subst h
  exact ⟨0, by simp [T14, run, Guard.ok, evs, Atom.ev, Prim.ev, farith, innerP]⟩
theorem run15 {G : Told} (g14 : G 14 = F14) (g11 : G 11 = F11) : ∀ ds rs, F15 ds = some rs → ∃ fuel, run G fuel T15 ds = some (0, rs) := by
  intro ds rs h
  simp only [F15] at h
  split at h <;> simp only [Option.some.injEq, reduceCtorEq] at h
  subst h
  exact ⟨0, by simp [T15, run, Guard.ok, evs, Atom.ev, g14, F14, g11, F11, longP]⟩
theorem run16 {G : Told} : ∀ ds rs, F16 ds = some rs → ∃ fuel, run G fuel T16 ds = some (0, rs) := by
  intro ds rs h
  simp only [F16] at h
  split at h <;> simp only [Option.some.injEq, reduceCtorEq] at h
  subst h
  exact ⟨0, by simp [T16, run, evs, Atom.ev]⟩
theorem run17 {G : Told} (g13 : G 13 = F13) (g15 : G 15 = F15) : ∀ ds rs, F17 ds = some rs → ∃ fuel, run G fuel T17 ds = some (0, rs) := by
  intro ds rs h
  simp only [F17] at h
  split at h <;> simp only [Option.some.injEq, reduceCtorEq] at h
  subst h
  exact ⟨0, by simp [T17, run, Guard.ok, evs, Atom.ev, Prim.ev, farith, g13, F13, g15, F15, awayP]⟩
theorem run22 {G : Told} (g4 : G 4 = F4) (g16 : G 16 = F16) (g17 : G 17 = F17) : ∀ ds rs, F22 ds = some rs → ∃ fuel, run G fuel T22 ds = some (0, rs) := by
  intro ds rs h
  simp only [F22] at h
  split at h <;> simp only [Option.some.injEq, reduceCtorEq] at h
  subst h
  exact ⟨0, by simp [T22, run, Guard.ok, evs, Atom.ev, Prim.ev, g16, F16, g17, F17, g4, F4, f2f_wide, sameP_self]⟩

end Vs
