/-
  Laws of the plain functions of films: what the functions compute, and that the texts of the executor compute it.
-/
import Derived.Test.YtfpmhmngebnphaaC
namespace Vs
open Go

def sgB : Sig := ⟨[pv f1], [rv .bool]⟩
def sgF : Sig := ⟨[pv f1], [rv f1]⟩
def sgFB : Sig := ⟨[pv f1], [rv f1, rv .bool]⟩
def sg2FB : Sig := ⟨[pv f1, pv f1], [rv f1, rv .bool]⟩
def sgSame : Sig := ⟨[pv f8, pv f8], [rv .bool]⟩
def sg2B : Sig := ⟨[pv f1, pv f1], [rv .bool]⟩

/-! ### What they compute -/
def finP (x : Nat) : Bool := feq .f32 (fsub .f32 x x) 0
def overP (x : Nat) : Bool := finP x && fgt .f32 x 0
def sameP (x y : Nat) : Bool :=
  if !feq .f64 x x || !feq .f64 y y then !feq .f64 x x && !feq .f64 y y
  else if feq .f64 x 0 && feq .f64 y 0 then (fgt .f64 (fdiv .f64 4607182418800017408 x) 0 == fgt .f64 (fdiv .f64 4607182418800017408 y) 0)
  else feq .f64 x y
theorem sameP_self (x : Nat) : sameP x x = true := by
  unfold sameP
  cases h : feq .f64 x x <;> simp

def F1 : List D → Option (List D) | [.flt x] => some [.bool (finP x)] | _ => none
def F2 : List D → Option (List D) | [.flt x] => some [.bool (overP x)] | _ => none
def F3 : List D → Option (List D) | [.flt x] => some (if overP x then [.flt (fmul .f32 1068083597 x), .bool true] else [.flt 0, .bool false]) | _ => none
def F4 : List D → Option (List D) | [.flt x, .flt y] => some [.bool (sameP x y)] | _ => none
def F5 : List D → Option (List D) | [.flt x, .flt y] => some (if finP x && overP y then [.flt (fdiv .f32 (fmul .f32 1082130432 x) y), .bool true] else [.flt 0, .bool false]) | _ => none
def F6 : List D → Option (List D) | [.flt x] => some [.flt (fmul .f32 (fmul .f32 1086918619 x) x)] | _ => none
def F7 : List D → Option (List D) | [.flt x] => some (if overP x then [.flt (fmul .f32 (fmul .f32 1086918619 x) x), .bool true] else [.flt 0, .bool false]) | _ => none
def wallP (x y : Nat) : Nat :=
  let d := fsub .f32 x y
  if Vs.flt .f32 d 0 then fdiv .f32 (fmul .f32 x y) (fneg .f32 d) else fdiv .f32 (fmul .f32 x y) d
def F8 : List D → Option (List D) | [.flt x, .flt y] => some (if overP x && overP y && !feq .f32 x y then [.flt (wallP x y), .bool true] else [.flt 0, .bool false]) | _ => none
/-- What the laws answer: 'true', of one number and of two. -/
def F20 : List D → Option (List D) | [.flt _] => some [.bool true] | _ => none
def F21 : List D → Option (List D) | [.flt _, .flt _] => some [.bool true] | _ => none

/-! ### The texts -/
def T1 : T :=
(.op none (.far .sub .f32) [(.v 0), (.v 0)] <|
(.op none (.fcm .eql .f32) [(.v 1), (.c (.flt 0))] <|
(.out 0 [(.v 2)])))
def T2 : T :=
(.call none 1 [(.v 0)] 1 <|
(.op (some ((.v 1), true)) .id [(.v 0)] <|
(.op (some ((.v 1), true)) (.fcm .gtr .f32) [(.v 2), (.c (.flt 0))] <|
(.op none .pick [(.v 1), (.v 3), (.c (.bool false))] <|
(.out 0 [(.v 4)])))))
def T3 : T :=
(.call none 2 [(.v 0)] 1 <|
(.op none .bnot [(.v 1)] <|
(.ite (.v 2)
  (.out 0 [(.c (.flt 0)), (.c (.bool false))])
  (.op none (.far .mul .f32) [(.c (.flt 1068083597)), (.v 0)] <|
  (.out 0 [(.v 3), (.c (.bool true))])))))
def T4 : T :=
(.op none (.fcm .neq .f64) [(.v 0), (.v 0)] <|
(.op (some ((.v 2), false)) .id [(.v 1)] <|
(.op (some ((.v 2), false)) .id [(.v 1)] <|
(.op (some ((.v 2), false)) (.fcm .neq .f64) [(.v 3), (.v 4)] <|
(.op none .pick [(.v 2), (.c (.bool true)), (.v 5)] <|
(.ite (.v 6)
  (.op none (.fcm .neq .f64) [(.v 0), (.v 0)] <|
  (.op (some ((.v 7), true)) .id [(.v 1)] <|
  (.op (some ((.v 7), true)) .id [(.v 1)] <|
  (.op (some ((.v 7), true)) (.fcm .neq .f64) [(.v 8), (.v 9)] <|
  (.op none .pick [(.v 7), (.v 10), (.c (.bool false))] <|
  (.out 0 [(.v 11)]))))))
  (.op none (.fcm .eql .f64) [(.v 0), (.c (.flt 0))] <|
  (.op (some ((.v 7), true)) .id [(.v 1)] <|
  (.op (some ((.v 7), true)) (.fcm .eql .f64) [(.v 8), (.c (.flt 0))] <|
  (.op none .pick [(.v 7), (.v 9), (.c (.bool false))] <|
  (.ite (.v 10)
    (.op none (.far .quo .f64) [(.c (.flt 4607182418800017408)), (.v 0)] <|
    (.op none (.fcm .gtr .f64) [(.v 11), (.c (.flt 0))] <|
    (.op none (.far .quo .f64) [(.c (.flt 4607182418800017408)), (.v 1)] <|
    (.op none (.fcm .gtr .f64) [(.v 13), (.c (.flt 0))] <|
    (.op none .beq [(.v 12), (.v 14)] <|
    (.out 0 [(.v 15)]))))))
    (.op none (.fcm .eql .f64) [(.v 0), (.v 1)] <|
    (.out 0 [(.v 11)])))))))))))))

theorem run1 {G : Told} : ∀ ds rs, F1 ds = some rs → ∃ fuel, run G fuel T1 ds = some (0, rs) := by
  intro ds rs h
  simp only [F1] at h
  split at h <;> simp only [Option.some.injEq, reduceCtorEq] at h
  subst h
  exact ⟨0, by simp [T1, run, Guard.ok, evs, Atom.ev, Prim.ev, farith, fcmp, finP]⟩

theorem run2 {G : Told} (g1 : G 1 = F1) : ∀ ds rs, F2 ds = some rs → ∃ fuel, run G fuel T2 ds = some (0, rs) := by
  intro ds rs h
  simp only [F2] at h
  split at h <;> simp only [Option.some.injEq, reduceCtorEq] at h
  subst h
  rename_i x
  refine ⟨0, ?_⟩
  cases h1 : finP x <;> simp [T2, run, Guard.ok, evs, Atom.ev, Prim.ev, fcmp, g1, F1, overP, h1]

theorem run3 {G : Told} (g2 : G 2 = F2) : ∀ ds rs, F3 ds = some rs → ∃ fuel, run G fuel T3 ds = some (0, rs) := by
  intro ds rs h
  simp only [F3] at h
  split at h <;> simp only [Option.some.injEq, reduceCtorEq] at h
  subst h
  rename_i x
  refine ⟨0, ?_⟩
  cases h1 : overP x <;> simp [T3, run, Guard.ok, evs, Atom.ev, Prim.ev, farith, g2, F2, h1]

theorem run4 {G : Told} : ∀ ds rs, F4 ds = some rs → ∃ fuel, run G fuel T4 ds = some (0, rs) := by
  intro ds rs h
  simp only [F4] at h
  split at h <;> simp only [Option.some.injEq, reduceCtorEq] at h
  subst h
  rename_i x y
  refine ⟨0, ?_⟩
  cases h1 : feq .f64 x x <;> cases h2 : feq .f64 y y <;> cases h3 : feq .f64 x 0 <;> cases h4 : feq .f64 y 0 <;>
    simp [T4, run, Guard.ok, evs, Atom.ev, Prim.ev, farith, fcmp, sameP, h1, h2, h3, h4]

def T5 : T :=
(.call none 1 [(.v 0)] 1 <|
(.op none .bnot [(.v 2)] <|
(.op (some ((.v 3), false)) .id [(.v 1)] <|
(.call (some ((.v 3), false)) 2 [(.v 4)] 1 <|
(.op (some ((.v 3), false)) .bnot [(.v 5)] <|
(.op none .pick [(.v 3), (.c (.bool true)), (.v 6)] <|
(.ite (.v 7)
  (.out 0 [(.c (.flt 0)), (.c (.bool false))])
  (.op none (.far .mul .f32) [(.c (.flt 1082130432)), (.v 0)] <|
  (.op none (.far .quo .f32) [(.v 8), (.v 1)] <|
  (.out 0 [(.v 9), (.c (.bool true))]))))))))))
def T6 : T :=
(.op none (.far .mul .f32) [(.c (.flt 1086918619)), (.v 0)] <|
(.op none (.far .mul .f32) [(.v 1), (.v 0)] <|
(.out 0 [(.v 2)])))
def T7 : T :=
(.call none 2 [(.v 0)] 1 <|
(.op none .bnot [(.v 1)] <|
(.ite (.v 2)
  (.out 0 [(.c (.flt 0)), (.c (.bool false))])
  (.call none 6 [(.v 0)] 1 <|
  (.out 0 [(.v 3), (.c (.bool true))])))))
def T7' : T :=
(.call none 2 [(.v 0)] 1 <|
(.op none .bnot [(.v 1)] <|
(.ite (.v 2)
  (.out 0 [(.c (.flt 0)), (.c (.bool false))])
  (.op none (.far .mul .f32) [(.c (.flt 1073741824)), (.c (.flt 1078530011))] <|
  (.op none (.far .mul .f32) [(.v 3), (.v 0)] <|
  (.op none (.far .mul .f32) [(.v 4), (.v 0)] <|
  (.out 0 [(.v 5), (.c (.bool true))])))))))
def T8 : T :=
(.call none 2 [(.v 0)] 1 <|
(.op none .bnot [(.v 2)] <|
(.op (some ((.v 3), false)) .id [(.v 1)] <|
(.call (some ((.v 3), false)) 2 [(.v 4)] 1 <|
(.op (some ((.v 3), false)) .bnot [(.v 5)] <|
(.op none .pick [(.v 3), (.c (.bool true)), (.v 6)] <|
(.op (some ((.v 7), false)) .id [(.v 0)] <|
(.op (some ((.v 7), false)) .id [(.v 1)] <|
(.op (some ((.v 7), false)) (.fcm .eql .f32) [(.v 8), (.v 9)] <|
(.op none .pick [(.v 7), (.c (.bool true)), (.v 10)] <|
(.ite (.v 11)
  (.out 0 [(.c (.flt 0)), (.c (.bool false))])
  (.op none (.far .sub .f32) [(.v 0), (.v 1)] <|
  (.op none (.fcm .lss .f32) [(.v 12), (.c (.flt 0))] <|
  (.ite (.v 13)
    (.op none (.fneg .f32) [(.v 12)] <|
    (.op none (.far .mul .f32) [(.v 0), (.v 1)] <|
    (.op none (.far .quo .f32) [(.v 15), (.v 14)] <|
    (.out 0 [(.v 16), (.c (.bool true))]))))
    (.op none (.far .mul .f32) [(.v 0), (.v 1)] <|
    (.op none (.far .quo .f32) [(.v 14), (.v 12)] <|
    (.out 0 [(.v 15), (.c (.bool true))])))))))))))))))))

theorem run5 {G : Told} (g1 : G 1 = F1) (g2 : G 2 = F2) : ∀ ds rs, F5 ds = some rs → ∃ fuel, run G fuel T5 ds = some (0, rs) := by
  intro ds rs h
  simp only [F5] at h
  split at h <;> simp only [Option.some.injEq, reduceCtorEq] at h
  subst h
  rename_i x y
  refine ⟨0, ?_⟩
  cases h1 : finP x <;> cases h2 : overP y <;> simp [T5, run, Guard.ok, evs, Atom.ev, Prim.ev, farith, g1, g2, F1, F2, h1, h2]

theorem run6 {G : Told} : ∀ ds rs, F6 ds = some rs → ∃ fuel, run G fuel T6 ds = some (0, rs) := by
  intro ds rs h
  simp only [F6] at h
  split at h <;> simp only [Option.some.injEq, reduceCtorEq] at h
  subst h
  exact ⟨0, by simp [T6, run, Guard.ok, evs, Atom.ev, Prim.ev, farith]⟩

theorem two_pi : fmul .f32 1073741824 1078530011 = 1086918619 := by decide +kernel

theorem run7 {G : Told} (g2 : G 2 = F2) (g6 : G 6 = F6) : ∀ ds rs, F7 ds = some rs → ∃ fuel, run G fuel T7 ds = some (0, rs) := by
  intro ds rs h
  simp only [F7] at h
  split at h <;> simp only [Option.some.injEq, reduceCtorEq] at h
  subst h
  rename_i x
  refine ⟨0, ?_⟩
  cases h1 : overP x <;> simp [T7, run, Guard.ok, evs, Atom.ev, Prim.ev, g2, g6, F2, F6, h1]
theorem run7' {G : Told} (g2 : G 2 = F2) : ∀ ds rs, F7 ds = some rs → ∃ fuel, run G fuel T7' ds = some (0, rs) := by
  intro ds rs h
  simp only [F7] at h
  split at h <;> simp only [Option.some.injEq, reduceCtorEq] at h
  subst h
  rename_i x
  refine ⟨0, ?_⟩
  cases h1 : overP x <;> simp [T7', run, Guard.ok, evs, Atom.ev, Prim.ev, farith, g2, F2, h1, two_pi]

theorem run8 {G : Told} (g2 : G 2 = F2) : ∀ ds rs, F8 ds = some rs → ∃ fuel, run G fuel T8 ds = some (0, rs) := by
  intro ds rs h
  simp only [F8] at h
  split at h <;> simp only [Option.some.injEq, reduceCtorEq] at h
  subst h
  rename_i x y
  refine ⟨0, ?_⟩
  cases h1 : overP x <;> cases h2 : overP y <;> cases h3 : feq .f32 x y <;> cases h4 : Vs.flt .f32 (fsub .f32 x y) 0 <;>
    simp [T8, run, Guard.ok, evs, Atom.ev, Prim.ev, farith, fcmp, g2, F2, wallP, h1, h2, h3, h4]

/-! ### The laws' own texts -/
def TL1 (k : Nat) : T :=
(.call none k [(.v 0)] 2 <|
(.call none k [(.v 0)] 2 <|
(.op none (.f2f .f32 .f64) [(.v 3)] <|
(.op none (.f2f .f32 .f64) [(.v 1)] <|
(.call none 4 [(.v 5), (.v 6)] 1 <|
(.op none .bnot [(.v 7)] <|
(.op (some ((.v 8), false)) .id [(.v 4)] <|
(.op (some ((.v 8), false)) .id [(.v 2)] <|
(.op (some ((.v 8), false)) .bne [(.v 9), (.v 10)] <|
(.op none .pick [(.v 8), (.c (.bool true)), (.v 11)] <|
(.ite (.v 12)
  (.out 0 [(.c (.bool false))])
  (.out 0 [(.c (.bool true))]))))))))))))
def TL2 (k : Nat) : T :=
(.call none k [(.v 0), (.v 1)] 2 <|
(.call none k [(.v 0), (.v 1)] 2 <|
(.op none (.f2f .f32 .f64) [(.v 4)] <|
(.op none (.f2f .f32 .f64) [(.v 2)] <|
(.call none 4 [(.v 6), (.v 7)] 1 <|
(.op none .bnot [(.v 8)] <|
(.op (some ((.v 9), false)) .id [(.v 5)] <|
(.op (some ((.v 9), false)) .id [(.v 3)] <|
(.op (some ((.v 9), false)) .bne [(.v 10), (.v 11)] <|
(.op none .pick [(.v 9), (.c (.bool true)), (.v 12)] <|
(.ite (.v 13)
  (.out 0 [(.c (.bool false))])
  (.out 0 [(.c (.bool true))]))))))))))))

theorem runL1 {G : Told} (g4 : G 4 = F4) (k : Nat) (hk : ∀ x, ∃ a b, G k [.flt x] = some [.flt a, .bool b]) : ∀ ds rs, F20 ds = some rs → ∃ fuel, run G fuel (TL1 k) ds = some (0, rs) := by
  intro ds rs h
  simp only [F20] at h
  split at h <;> simp only [Option.some.injEq, reduceCtorEq] at h
  subst h
  rename_i x
  obtain ⟨a, b, hab⟩ := hk x
  have h4 : G 4 [.flt (wide a), .flt (wide a)] = some [.bool true] := by simp [g4, F4, sameP_self]
  exact ⟨0, by simp [TL1, run, Guard.ok, evs, Atom.ev, Prim.ev, hab, f2f_wide, h4]⟩
theorem runL2 {G : Told} (g4 : G 4 = F4) (k : Nat) (hk : ∀ x y, ∃ a b, G k [.flt x, .flt y] = some [.flt a, .bool b]) : ∀ ds rs, F21 ds = some rs → ∃ fuel, run G fuel (TL2 k) ds = some (0, rs) := by
  intro ds rs h
  simp only [F21] at h
  split at h <;> simp only [Option.some.injEq, reduceCtorEq] at h
  subst h
  rename_i x y
  obtain ⟨a, b, hab⟩ := hk x y
  have h4 : G 4 [.flt (wide a), .flt (wide a)] = some [.bool true] := by simp [g4, F4, sameP_self]
  exact ⟨0, by simp [TL2, run, Guard.ok, evs, Atom.ev, Prim.ev, hab, f2f_wide, h4]⟩

theorem two3 (x : Nat) : ∃ a b, F3 [.flt x] = some [.flt a, .bool b] := by
  simp only [F3]
  split <;> exact ⟨_, _, rfl⟩
theorem two7 (x : Nat) : ∃ a b, F7 [.flt x] = some [.flt a, .bool b] := by
  simp only [F7]
  split <;> exact ⟨_, _, rfl⟩
theorem two5 (x y : Nat) : ∃ a b, F5 [.flt x, .flt y] = some [.flt a, .bool b] := by
  simp only [F5]
  split <;> exact ⟨_, _, rfl⟩
theorem two8 (x y : Nat) : ∃ a b, F8 [.flt x, .flt y] = some [.flt a, .bool b] := by
  simp only [F8]
  split <;> exact ⟨_, _, rfl⟩

end Vs

namespace Vs
open Go

def sg8 : Sig := ⟨[pv f8], [rv f8]⟩
def sg81 : Sig := ⟨[pv f8], [rv f1]⟩

def F9 : List D → Option (List D) | [.flt x] => some [.flt (fsqrt .f64 x)] | _ => none
def F10 : List D → Option (List D) | [.flt x] => (f2f .f64 .f32 x).map fun y => [.flt y] | _ => none
def F11 : List D → Option (List D) | [.flt x] => some [.flt (rootP x)] | _ => none
def F12 : List D → Option (List D) | [.flt x, .flt y] => some (if fge .f32 x 0 && overP y then [.flt (rootP (fdiv .f32 x y)), .bool true] else [.flt 0, .bool false]) | _ => none

def T9 : T :=
(.op none (.sqrt .f64) [(.v 0)] <|
(.out 0 [(.v 1)]))
def T10 : T :=
(.op none (.f2f .f64 .f32) [(.v 0)] <|
(.out 0 [(.v 1)]))
def T11 : T :=
(.op none (.f2f .f32 .f64) [(.v 0)] <|
(.call none 9 [(.v 1)] 1 <|
(.op none (.f2f .f64 .f32) [(.v 2)] <|
(.out 0 [(.v 3)]))))
def T11' : T :=
(.op none (.f2f .f32 .f64) [(.v 0)] <|
(.call none 9 [(.v 1)] 1 <|
(.call none 10 [(.v 2)] 1 <|
(.out 0 [(.v 3)]))))
def T12 : T :=
(.op none (.fcm .geq .f32) [(.v 0), (.c (.flt 0))] <|
(.op none .bnot [(.v 2)] <|
(.op (some ((.v 3), false)) .id [(.v 1)] <|
(.call (some ((.v 3), false)) 2 [(.v 4)] 1 <|
(.op (some ((.v 3), false)) .bnot [(.v 5)] <|
(.op none .pick [(.v 3), (.c (.bool true)), (.v 6)] <|
(.ite (.v 7)
  (.out 0 [(.c (.flt 0)), (.c (.bool false))])
  (.op none (.far .quo .f32) [(.v 0), (.v 1)] <|
  (.call none 11 [(.v 8)] 1 <|
  (.out 0 [(.v 9), (.c (.bool true))]))))))))))

theorem run9 {G : Told} : ∀ ds rs, F9 ds = some rs → ∃ fuel, run G fuel T9 ds = some (0, rs) := by
  intro ds rs h
  simp only [F9] at h
  split at h <;> simp only [Option.some.injEq, reduceCtorEq] at h
  subst h
  exact ⟨0, by simp [T9, run, Guard.ok, evs, Atom.ev, Prim.ev]⟩
theorem run10 {G : Told} : ∀ ds rs, F10 ds = some rs → ∃ fuel, run G fuel T10 ds = some (0, rs) := by
  intro ds rs h
  simp only [F10] at h
  split at h
  · simp only [Option.map_eq_some_iff] at h
    obtain ⟨y, hy, rfl⟩ := h
    exact ⟨0, by simp [T10, run, Guard.ok, evs, Atom.ev, Prim.ev, hy]⟩
  · cases h
theorem run11 {G : Told} (g9 : G 9 = F9) : ∀ ds rs, F11 ds = some rs → ∃ fuel, run G fuel T11 ds = some (0, rs) := by
  intro ds rs h
  simp only [F11] at h
  split at h <;> simp only [Option.some.injEq, reduceCtorEq] at h
  subst h
  exact ⟨0, by simp [T11, run, Guard.ok, evs, Atom.ev, Prim.ev, g9, F9, f2f_wide, f2f_root]⟩
theorem run11' {G : Told} (g9 : G 9 = F9) (g10 : G 10 = F10) : ∀ ds rs, F11 ds = some rs → ∃ fuel, run G fuel T11' ds = some (0, rs) := by
  intro ds rs h
  simp only [F11] at h
  split at h <;> simp only [Option.some.injEq, reduceCtorEq] at h
  subst h
  exact ⟨0, by simp [T11', run, Guard.ok, evs, Atom.ev, Prim.ev, g9, F9, g10, F10, f2f_wide, f2f_root]⟩
theorem run12 {G : Told} (g2 : G 2 = F2) (g11 : G 11 = F11) : ∀ ds rs, F12 ds = some rs → ∃ fuel, run G fuel T12 ds = some (0, rs) := by
  intro ds rs h
  simp only [F12] at h
  split at h <;> simp only [Option.some.injEq, reduceCtorEq] at h
  subst h
  rename_i x y
  refine ⟨0, ?_⟩
  cases h1 : fge .f32 x 0 <;> cases h2 : overP y <;> simp [T12, run, Guard.ok, evs, Atom.ev, Prim.ev, farith, fcmp, g2, F2, g11, F11, h1, h2]
theorem two12 (x y : Nat) : ∃ a b, F12 [.flt x, .flt y] = some [.flt a, .bool b] := by
  simp only [F12]
  split <;> exact ⟨_, _, rfl⟩

end Vs

namespace Vs
open Go

abbrev c1 : CT := .b f1
abbrev pV : PK := .val true [.rd c1, .rd c1, .rd c1]
abbrev rV : Bool × List RK := (true, [.cell f1, .cell f1, .cell f1])
def sgVV : Sig := ⟨[pV, pV], [rV]⟩
def sgVVf : Sig := ⟨[pV, pV], [rv f1]⟩
def sgVf : Sig := ⟨[pV], [rv f1]⟩
def sgV : Sig := ⟨[pV], [rV]⟩
def sg4f : Sig := ⟨[pV, pV, pV, pV], [rv f1]⟩
def sg4B : Sig := ⟨[pV, pV, pV, pV], [rv .bool]⟩

def innerP (a b c x y z : Nat) : Nat := fadd .f32 (fadd .f32 (fmul .f32 a x) (fmul .f32 b y)) (fmul .f32 c z)
def longP (a b c : Nat) : Nat := rootP (innerP a b c a b c)
def awayP (a b c x y z : Nat) : Nat := longP (fsub .f32 a x) (fsub .f32 b y) (fsub .f32 c z)

def F13 : List D → Option (List D) | [.flt a, .flt b, .flt c, .flt x, .flt y, .flt z] => some [.flt (fsub .f32 a x), .flt (fsub .f32 b y), .flt (fsub .f32 c z)] | _ => none
def F14 : List D → Option (List D) | [.flt a, .flt b, .flt c, .flt x, .flt y, .flt z] => some [.flt (innerP a b c x y z)] | _ => none
def F15 : List D → Option (List D) | [.flt a, .flt b, .flt c] => some [.flt (longP a b c)] | _ => none
def F16 : List D → Option (List D) | [.flt a, .flt b, .flt c] => some [.flt a, .flt b, .flt c] | _ => none
def F17 : List D → Option (List D)
  | [.flt p, .flt q, .flt r, .flt a, .flt b, .flt c, .flt d, .flt e, .flt f, .flt x, .flt y, .flt z] => some [.flt (fadd .f32 (fadd .f32 (awayP p q r a b c) (awayP p q r d e f)) (awayP p q r x y z))]
  | _ => none
def F22 : List D → Option (List D)
  | [.flt _, .flt _, .flt _, .flt _, .flt _, .flt _, .flt _, .flt _, .flt _, .flt _, .flt _, .flt _] => some [.bool true]
  | _ => none

def T13 : T :=
(.op none (.far .sub .f32) [(.v 0), (.v 3)] <|
(.op none (.far .sub .f32) [(.v 1), (.v 4)] <|
(.op none (.far .sub .f32) [(.v 2), (.v 5)] <|
(.out 0 [(.v 6), (.v 7), (.v 8)]))))
def T14 : T :=
(.op none (.far .mul .f32) [(.v 0), (.v 3)] <|
(.op none (.far .mul .f32) [(.v 1), (.v 4)] <|
(.op none (.far .add .f32) [(.v 6), (.v 7)] <|
(.op none (.far .mul .f32) [(.v 2), (.v 5)] <|
(.op none (.far .add .f32) [(.v 8), (.v 9)] <|
(.out 0 [(.v 10)]))))))
def T15 : T :=
(.call none 14 [(.v 0), (.v 1), (.v 2), (.v 0), (.v 1), (.v 2)] 1 <|
(.call none 11 [(.v 3)] 1 <|
(.out 0 [(.v 4)])))
def T16 : T := (.out 0 [(.v 0), (.v 1), (.v 2)])
def T17 : T :=
(.call none 13 [(.v 0), (.v 1), (.v 2), (.v 3), (.v 4), (.v 5)] 3 <|
(.call none 15 [(.v 12), (.v 13), (.v 14)] 1 <|
(.call none 13 [(.v 0), (.v 1), (.v 2), (.v 6), (.v 7), (.v 8)] 3 <|
(.call none 15 [(.v 16), (.v 17), (.v 18)] 1 <|
(.op none (.far .add .f32) [(.v 15), (.v 19)] <|
(.call none 13 [(.v 0), (.v 1), (.v 2), (.v 9), (.v 10), (.v 11)] 3 <|
(.call none 15 [(.v 21), (.v 22), (.v 23)] 1 <|
(.op none (.far .add .f32) [(.v 20), (.v 24)] <|
(.out 0 [(.v 25)])))))))))
def T22 : T :=
(.call none 16 [(.v 0), (.v 1), (.v 2)] 3 <|
(.call none 16 [(.v 3), (.v 4), (.v 5)] 3 <|
(.call none 16 [(.v 6), (.v 7), (.v 8)] 3 <|
(.call none 16 [(.v 9), (.v 10), (.v 11)] 3 <|
(.call none 17 [(.v 12), (.v 13), (.v 14), (.v 15), (.v 16), (.v 17), (.v 18), (.v 19), (.v 20), (.v 21), (.v 22), (.v 23)] 1 <|
(.call none 16 [(.v 0), (.v 1), (.v 2)] 3 <|
(.call none 16 [(.v 3), (.v 4), (.v 5)] 3 <|
(.call none 16 [(.v 6), (.v 7), (.v 8)] 3 <|
(.call none 16 [(.v 9), (.v 10), (.v 11)] 3 <|
(.call none 17 [(.v 25), (.v 26), (.v 27), (.v 28), (.v 29), (.v 30), (.v 31), (.v 32), (.v 33), (.v 34), (.v 35), (.v 36)] 1 <|
(.op none (.f2f .f32 .f64) [(.v 37)] <|
(.op none (.f2f .f32 .f64) [(.v 24)] <|
(.call none 4 [(.v 38), (.v 39)] 1 <|
(.op none .bnot [(.v 40)] <|
(.ite (.v 41)
  (.out 0 [(.c (.bool false))])
  (.out 0 [(.c (.bool true))]))))))))))))))))

theorem run13 {G : Told} : ∀ ds rs, F13 ds = some rs → ∃ fuel, run G fuel T13 ds = some (0, rs) := by
  intro ds rs h
  simp only [F13] at h
  split at h <;> simp only [Option.some.injEq, reduceCtorEq] at h
  subst h
  exact ⟨0, by simp [T13, run, Guard.ok, evs, Atom.ev, Prim.ev, farith]⟩
theorem run14 {G : Told} : ∀ ds rs, F14 ds = some rs → ∃ fuel, run G fuel T14 ds = some (0, rs) := by
  intro ds rs h
  simp only [F14] at h
  split at h <;> simp only [Option.some.injEq, reduceCtorEq] at h
  subst h
  exact ⟨0, by simp [T14, run, Guard.ok, evs, Atom.ev, Prim.ev, farith, innerP]⟩
theorem run15 {G : Told} (g14 : G 14 = F14) (g11 : G 11 = F11) : ∀ ds rs, F15 ds = some rs → ∃ fuel, run G fuel T15 ds = some (0, rs) := by
  intro ds rs h
  simp only [F15] at h
  split at h <;> simp only [Option.some.injEq, reduceCtorEq] at h
  subst h
  exact ⟨0, by simp [T15, run, Guard.ok, evs, Atom.ev, g14, F14, g11, F11, longP]⟩
theorem run16 {G : Told} : ∀ ds rs, F16 ds = some rs → ∃ fuel, run G fuel T16 ds = some (0, rs) := by
  intro ds rs h
  simp only [F16] at h
  split at h <;> simp only [Option.some.injEq, reduceCtorEq] at h
  subst h
  exact ⟨0, by simp [T16, run, evs, Atom.ev]⟩
theorem run17 {G : Told} (g13 : G 13 = F13) (g15 : G 15 = F15) : ∀ ds rs, F17 ds = some rs → ∃ fuel, run G fuel T17 ds = some (0, rs) := by
  intro ds rs h
  simp only [F17] at h
  split at h <;> simp only [Option.some.injEq, reduceCtorEq] at h
  subst h
  exact ⟨0, by simp [T17, run, Guard.ok, evs, Atom.ev, Prim.ev, farith, g13, F13, g15, F15, awayP]⟩
theorem run22 {G : Told} (g4 : G 4 = F4) (g16 : G 16 = F16) (g17 : G 17 = F17) : ∀ ds rs, F22 ds = some rs → ∃ fuel, run G fuel T22 ds = some (0, rs) := by
  intro ds rs h
  simp only [F22] at h
  split at h <;> simp only [Option.some.injEq, reduceCtorEq] at h
  subst h
  exact ⟨0, by simp [T22, run, Guard.ok, evs, Atom.ev, Prim.ev, g16, F16, g17, F17, g4, F4, f2f_wide, sameP_self]⟩

end Vs

namespace Vs
open Go

def T32 : T :=
(.call none 18 [(.v 0), (.v 1), (.v 2)] 1 <|
(.op none .bnot [(.v 10)] <|
(.call (some ((.v 11), false)) 18 [(.v 3), (.v 4), (.v 5)] 1 <|
(.op (some ((.v 11), false)) .bnot [(.v 12)] <|
(.op none .pick [(.v 11), (.c (.bool true)), (.v 13)] <|
(.call (some ((.v 14), false)) 18 [(.v 6), (.v 7), (.v 8)] 1 <|
(.op (some ((.v 14), false)) .bnot [(.v 15)] <|
(.op none .pick [(.v 14), (.c (.bool true)), (.v 16)] <|
(.op (some ((.v 17), false)) .id [(.v 9)] <|
(.call (some ((.v 17), false)) 19 [(.v 18), (.c (.int 0)), (.c (.int 100))] 1 <|
(.op (some ((.v 17), false)) .bnot [(.v 19)] <|
(.op none .pick [(.v 17), (.c (.bool true)), (.v 20)] <|
(.ite (.v 21)
  (.out 0 [(.c (.flt 0)), (.c (.flt 0)), (.c (.flt 0)), (.c (.bool false))])
  (.call none 30 [(.v 0), (.v 1), (.v 2), (.v 3), (.v 4), (.v 5)] 3 <|
  (.call none 30 [(.v 22), (.v 23), (.v 24), (.v 6), (.v 7), (.v 8)] 3 <|
  (.call none 31 [(.v 25), (.v 26), (.v 27), (.c (.flt 1051372203))] 3 <|
  (.join 5
    (.loop [(.v 28), (.v 29), (.v 30), (.c (.int 0))]
      (.op none (.icm .lss) [(.v 34), (.v 9)] <|
      (.ite (.v 35)
        (.call none 13 [(.v 31), (.v 32), (.v 33), (.v 0), (.v 1), (.v 2)] 3 <|
        (.call none 15 [(.v 36), (.v 37), (.v 38)] 1 <|
        (.op none (.far .quo .f32) [(.c (.flt 1065353216)), (.v 39)] <|
        (.call none 13 [(.v 31), (.v 32), (.v 33), (.v 3), (.v 4), (.v 5)] 3 <|
        (.call none 15 [(.v 41), (.v 42), (.v 43)] 1 <|
        (.op none (.far .quo .f32) [(.c (.flt 1065353216)), (.v 44)] <|
        (.call none 13 [(.v 31), (.v 32), (.v 33), (.v 6), (.v 7), (.v 8)] 3 <|
        (.call none 15 [(.v 46), (.v 47), (.v 48)] 1 <|
        (.op none (.far .quo .f32) [(.c (.flt 1065353216)), (.v 49)] <|
        (.call none 1 [(.v 40)] 1 <|
        (.op none .bnot [(.v 51)] <|
        (.op (some ((.v 52), false)) .id [(.v 45)] <|
        (.call (some ((.v 52), false)) 1 [(.v 53)] 1 <|
        (.op (some ((.v 52), false)) .bnot [(.v 54)] <|
        (.op none .pick [(.v 52), (.c (.bool true)), (.v 55)] <|
        (.op (some ((.v 56), false)) .id [(.v 50)] <|
        (.call (some ((.v 56), false)) 1 [(.v 57)] 1 <|
        (.op (some ((.v 56), false)) .bnot [(.v 58)] <|
        (.op none .pick [(.v 56), (.c (.bool true)), (.v 59)] <|
        (.ite (.v 60)
          (.out 1 [(.v 31), (.v 32), (.v 33), (.v 34), (.v 35)])
          (.call none 31 [(.v 0), (.v 1), (.v 2), (.v 40)] 3 <|
          (.call none 31 [(.v 3), (.v 4), (.v 5), (.v 45)] 3 <|
          (.call none 30 [(.v 61), (.v 62), (.v 63), (.v 64), (.v 65), (.v 66)] 3 <|
          (.call none 31 [(.v 6), (.v 7), (.v 8), (.v 50)] 3 <|
          (.call none 30 [(.v 67), (.v 68), (.v 69), (.v 70), (.v 71), (.v 72)] 3 <|
          (.op none (.far .add .f32) [(.v 40), (.v 45)] <|
          (.op none (.far .add .f32) [(.v 76), (.v 50)] <|
          (.op none (.far .quo .f32) [(.c (.flt 1065353216)), (.v 77)] <|
          (.call none 31 [(.v 73), (.v 74), (.v 75), (.v 78)] 3 <|
          (.op none (.iar .add .i64) [(.v 34), (.c (.int 1))] <|
          (.out 0 [(.v 79), (.v 80), (.v 81), (.v 82)])))))))))))))))))))))))))))))))
        (.out 1 [(.v 31), (.v 32), (.v 33), (.v 34), (.v 35)]))))
  (.out 0 [(.v 31), (.v 32), (.v 33), (.c (.bool true))]))))))))))))))))))
def S32L0 (G : Told) (x0 : D) (x1 : D) (x2 : D) (x3 : D) (x4 : D) (x5 : D) (x6 : D) (x7 : D) (x8 : D) (x9 : D) : List D → Option (Nat × List D) := fun e31 =>
        (gev none (.icm .lss) [(e31.getD 3 .undef), x9]).bind fun x35 =>
        tif x35 (
          (gcall G none 13 [(e31.getD 0 .undef), (e31.getD 1 .undef), (e31.getD 2 .undef), x0, x1, x2] 3).bind fun e36 =>
          (gcall G none 15 [(e36.getD 0 .undef), (e36.getD 1 .undef), (e36.getD 2 .undef)] 1).bind fun e39 =>
          (gev none (.far .quo .f32) [(.flt 1065353216), (e39.getD 0 .undef)]).bind fun x40 =>
          (gcall G none 13 [(e31.getD 0 .undef), (e31.getD 1 .undef), (e31.getD 2 .undef), x3, x4, x5] 3).bind fun e41 =>
          (gcall G none 15 [(e41.getD 0 .undef), (e41.getD 1 .undef), (e41.getD 2 .undef)] 1).bind fun e44 =>
          (gev none (.far .quo .f32) [(.flt 1065353216), (e44.getD 0 .undef)]).bind fun x45 =>
          (gcall G none 13 [(e31.getD 0 .undef), (e31.getD 1 .undef), (e31.getD 2 .undef), x6, x7, x8] 3).bind fun e46 =>
          (gcall G none 15 [(e46.getD 0 .undef), (e46.getD 1 .undef), (e46.getD 2 .undef)] 1).bind fun e49 =>
          (gev none (.far .quo .f32) [(.flt 1065353216), (e49.getD 0 .undef)]).bind fun x50 =>
          (gcall G none 1 [x40] 1).bind fun e51 =>
          (gev none .bnot [(e51.getD 0 .undef)]).bind fun x52 =>
          (gev (some (x52, false)) .id [x45]).bind fun x53 =>
          (gcall G (some (x52, false)) 1 [x53] 1).bind fun e54 =>
          (gev (some (x52, false)) .bnot [(e54.getD 0 .undef)]).bind fun x55 =>
          (gev none .pick [x52, (.bool true), x55]).bind fun x56 =>
          (gev (some (x56, false)) .id [x50]).bind fun x57 =>
          (gcall G (some (x56, false)) 1 [x57] 1).bind fun e58 =>
          (gev (some (x56, false)) .bnot [(e58.getD 0 .undef)]).bind fun x59 =>
          (gev none .pick [x56, (.bool true), x59]).bind fun x60 =>
          tif x60 (
            some (1, [(e31.getD 0 .undef), (e31.getD 1 .undef), (e31.getD 2 .undef), (e31.getD 3 .undef), x35])) (
            (gcall G none 31 [x0, x1, x2, x40] 3).bind fun e61 =>
            (gcall G none 31 [x3, x4, x5, x45] 3).bind fun e64 =>
            (gcall G none 30 [(e61.getD 0 .undef), (e61.getD 1 .undef), (e61.getD 2 .undef), (e64.getD 0 .undef), (e64.getD 1 .undef), (e64.getD 2 .undef)] 3).bind fun e67 =>
            (gcall G none 31 [x6, x7, x8, x50] 3).bind fun e70 =>
            (gcall G none 30 [(e67.getD 0 .undef), (e67.getD 1 .undef), (e67.getD 2 .undef), (e70.getD 0 .undef), (e70.getD 1 .undef), (e70.getD 2 .undef)] 3).bind fun e73 =>
            (gev none (.far .add .f32) [x40, x45]).bind fun x76 =>
            (gev none (.far .add .f32) [x76, x50]).bind fun x77 =>
            (gev none (.far .quo .f32) [(.flt 1065353216), x77]).bind fun x78 =>
            (gcall G none 31 [(e73.getD 0 .undef), (e73.getD 1 .undef), (e73.getD 2 .undef), x78] 3).bind fun e79 =>
            (gev none (.iar .add .i64) [(e31.getD 3 .undef), (.int 1)]).bind fun x82 =>
            some (0, [(e79.getD 0 .undef), (e79.getD 1 .undef), (e79.getD 2 .undef), x82]))) (
          some (1, [(e31.getD 0 .undef), (e31.getD 1 .undef), (e31.getD 2 .undef), (e31.getD 3 .undef), x35]))
def S32 (G : Told) (fuel : Nat) (x0 x1 x2 x3 x4 x5 x6 x7 x8 x9 : D) : Option (Nat × List D) :=
  (gcall G none 18 [x0, x1, x2] 1).bind fun e10 =>
  (gev none .bnot [(e10.getD 0 .undef)]).bind fun x11 =>
  (gcall G (some (x11, false)) 18 [x3, x4, x5] 1).bind fun e12 =>
  (gev (some (x11, false)) .bnot [(e12.getD 0 .undef)]).bind fun x13 =>
  (gev none .pick [x11, (.bool true), x13]).bind fun x14 =>
  (gcall G (some (x14, false)) 18 [x6, x7, x8] 1).bind fun e15 =>
  (gev (some (x14, false)) .bnot [(e15.getD 0 .undef)]).bind fun x16 =>
  (gev none .pick [x14, (.bool true), x16]).bind fun x17 =>
  (gev (some (x17, false)) .id [x9]).bind fun x18 =>
  (gcall G (some (x17, false)) 19 [x18, (.int 0), (.int 100)] 1).bind fun e19 =>
  (gev (some (x17, false)) .bnot [(e19.getD 0 .undef)]).bind fun x20 =>
  (gev none .pick [x17, (.bool true), x20]).bind fun x21 =>
  tif x21 (
    some (0, [(.flt 0), (.flt 0), (.flt 0), (.bool false)])) (
    (gcall G none 30 [x0, x1, x2, x3, x4, x5] 3).bind fun e22 =>
    (gcall G none 30 [(e22.getD 0 .undef), (e22.getD 1 .undef), (e22.getD 2 .undef), x6, x7, x8] 3).bind fun e25 =>
    (gcall G none 31 [(e25.getD 0 .undef), (e25.getD 1 .undef), (e25.getD 2 .undef), (.flt 1051372203)] 3).bind fun e28 =>
    tjoin 5 (
      iter (tbody 4 (S32L0 G x0 x1 x2 x3 x4 x5 x6 x7 x8 x9)) fuel [(e28.getD 0 .undef), (e28.getD 1 .undef), (e28.getD 2 .undef), (.int 0)]) fun e31 =>
    some (0, [(e31.getD 0 .undef), (e31.getD 1 .undef), (e31.getD 2 .undef), (.bool true)]))
theorem eq32 {G : Told} {fuel : Nat} (x0 x1 x2 x3 x4 x5 x6 x7 x8 x9 : D) : run G fuel T32 [x0, x1, x2, x3, x4, x5, x6, x7, x8, x9] = S32 G fuel x0 x1 x2 x3 x4 x5 x6 x7 x8 x9 := by
  rw [run_eq]; kernel_rfl

def T32s : T :=
(.call none 18 [(.v 0), (.v 1), (.v 2)] 1 <|
(.op none .bnot [(.v 10)] <|
(.call (some ((.v 11), false)) 18 [(.v 3), (.v 4), (.v 5)] 1 <|
(.op (some ((.v 11), false)) .bnot [(.v 12)] <|
(.op none .pick [(.v 11), (.c (.bool true)), (.v 13)] <|
(.call (some ((.v 14), false)) 18 [(.v 6), (.v 7), (.v 8)] 1 <|
(.op (some ((.v 14), false)) .bnot [(.v 15)] <|
(.op none .pick [(.v 14), (.c (.bool true)), (.v 16)] <|
(.op (some ((.v 17), false)) .id [(.v 9)] <|
(.call (some ((.v 17), false)) 19 [(.v 18), (.c (.int 0)), (.c (.int 100))] 1 <|
(.op (some ((.v 17), false)) .bnot [(.v 19)] <|
(.op none .pick [(.v 17), (.c (.bool true)), (.v 20)] <|
(.ite (.v 21)
  (.out 0 [(.c (.flt 0)), (.c (.flt 0)), (.c (.flt 0)), (.c (.bool false))])
  (.call none 30 [(.v 0), (.v 1), (.v 2), (.v 3), (.v 4), (.v 5)] 3 <|
  (.call none 30 [(.v 22), (.v 23), (.v 24), (.v 6), (.v 7), (.v 8)] 3 <|
  (.call none 31 [(.v 25), (.v 26), (.v 27), (.c (.flt 1051372203))] 3 <|
  (.join 7
    (.loop [(.v 28), (.v 29), (.v 30), (.c (.int 0))]
      (.op none (.icm .lss) [(.v 34), (.v 9)] <|
      (.ite (.v 35)
        (.call none 13 [(.v 31), (.v 32), (.v 33), (.v 0), (.v 1), (.v 2)] 3 <|
        (.call none 15 [(.v 36), (.v 37), (.v 38)] 1 <|
        (.op none (.far .quo .f32) [(.c (.flt 1065353216)), (.v 39)] <|
        (.call none 13 [(.v 31), (.v 32), (.v 33), (.v 3), (.v 4), (.v 5)] 3 <|
        (.call none 15 [(.v 41), (.v 42), (.v 43)] 1 <|
        (.op none (.far .quo .f32) [(.c (.flt 1065353216)), (.v 44)] <|
        (.call none 13 [(.v 31), (.v 32), (.v 33), (.v 6), (.v 7), (.v 8)] 3 <|
        (.call none 15 [(.v 46), (.v 47), (.v 48)] 1 <|
        (.op none (.far .quo .f32) [(.c (.flt 1065353216)), (.v 49)] <|
        (.call none 1 [(.v 40)] 1 <|
        (.op none .bnot [(.v 51)] <|
        (.op (some ((.v 52), false)) .id [(.v 45)] <|
        (.call (some ((.v 52), false)) 1 [(.v 53)] 1 <|
        (.op (some ((.v 52), false)) .bnot [(.v 54)] <|
        (.op none .pick [(.v 52), (.c (.bool true)), (.v 55)] <|
        (.op (some ((.v 56), false)) .id [(.v 50)] <|
        (.call (some ((.v 56), false)) 1 [(.v 57)] 1 <|
        (.op (some ((.v 56), false)) .bnot [(.v 58)] <|
        (.op none .pick [(.v 56), (.c (.bool true)), (.v 59)] <|
        (.ite (.v 60)
          (.out 1 [(.v 31), (.v 32), (.v 33), (.v 34), (.v 34), (.v 9), (.v 35)])
          (.call none 31 [(.v 0), (.v 1), (.v 2), (.v 40)] 3 <|
          (.call none 31 [(.v 3), (.v 4), (.v 5), (.v 45)] 3 <|
          (.call none 30 [(.v 61), (.v 62), (.v 63), (.v 64), (.v 65), (.v 66)] 3 <|
          (.call none 31 [(.v 6), (.v 7), (.v 8), (.v 50)] 3 <|
          (.call none 30 [(.v 67), (.v 68), (.v 69), (.v 70), (.v 71), (.v 72)] 3 <|
          (.op none (.far .add .f32) [(.v 40), (.v 45)] <|
          (.op none (.far .add .f32) [(.v 76), (.v 50)] <|
          (.op none (.far .quo .f32) [(.c (.flt 1065353216)), (.v 77)] <|
          (.call none 31 [(.v 73), (.v 74), (.v 75), (.v 78)] 3 <|
          (.op none (.iar .add .i64) [(.v 34), (.c (.int 1))] <|
          (.out 0 [(.v 79), (.v 80), (.v 81), (.v 82)])))))))))))))))))))))))))))))))
        (.out 1 [(.v 31), (.v 32), (.v 33), (.v 34), (.v 34), (.v 9), (.v 35)]))))
  (.out 0 [(.v 31), (.v 32), (.v 33), (.c (.bool true))]))))))))))))))))))
def S32sL0 (G : Told) (x0 : D) (x1 : D) (x2 : D) (x3 : D) (x4 : D) (x5 : D) (x6 : D) (x7 : D) (x8 : D) (x9 : D) : List D → Option (Nat × List D) := fun e31 =>
        (gev none (.icm .lss) [(e31.getD 3 .undef), x9]).bind fun x35 =>
        tif x35 (
          (gcall G none 13 [(e31.getD 0 .undef), (e31.getD 1 .undef), (e31.getD 2 .undef), x0, x1, x2] 3).bind fun e36 =>
          (gcall G none 15 [(e36.getD 0 .undef), (e36.getD 1 .undef), (e36.getD 2 .undef)] 1).bind fun e39 =>
          (gev none (.far .quo .f32) [(.flt 1065353216), (e39.getD 0 .undef)]).bind fun x40 =>
          (gcall G none 13 [(e31.getD 0 .undef), (e31.getD 1 .undef), (e31.getD 2 .undef), x3, x4, x5] 3).bind fun e41 =>
          (gcall G none 15 [(e41.getD 0 .undef), (e41.getD 1 .undef), (e41.getD 2 .undef)] 1).bind fun e44 =>
          (gev none (.far .quo .f32) [(.flt 1065353216), (e44.getD 0 .undef)]).bind fun x45 =>
          (gcall G none 13 [(e31.getD 0 .undef), (e31.getD 1 .undef), (e31.getD 2 .undef), x6, x7, x8] 3).bind fun e46 =>
          (gcall G none 15 [(e46.getD 0 .undef), (e46.getD 1 .undef), (e46.getD 2 .undef)] 1).bind fun e49 =>
          (gev none (.far .quo .f32) [(.flt 1065353216), (e49.getD 0 .undef)]).bind fun x50 =>
          (gcall G none 1 [x40] 1).bind fun e51 =>
          (gev none .bnot [(e51.getD 0 .undef)]).bind fun x52 =>
          (gev (some (x52, false)) .id [x45]).bind fun x53 =>
          (gcall G (some (x52, false)) 1 [x53] 1).bind fun e54 =>
          (gev (some (x52, false)) .bnot [(e54.getD 0 .undef)]).bind fun x55 =>
          (gev none .pick [x52, (.bool true), x55]).bind fun x56 =>
          (gev (some (x56, false)) .id [x50]).bind fun x57 =>
          (gcall G (some (x56, false)) 1 [x57] 1).bind fun e58 =>
          (gev (some (x56, false)) .bnot [(e58.getD 0 .undef)]).bind fun x59 =>
          (gev none .pick [x56, (.bool true), x59]).bind fun x60 =>
          tif x60 (
            some (1, [(e31.getD 0 .undef), (e31.getD 1 .undef), (e31.getD 2 .undef), (e31.getD 3 .undef), (e31.getD 3 .undef), x9, x35])) (
            (gcall G none 31 [x0, x1, x2, x40] 3).bind fun e61 =>
            (gcall G none 31 [x3, x4, x5, x45] 3).bind fun e64 =>
            (gcall G none 30 [(e61.getD 0 .undef), (e61.getD 1 .undef), (e61.getD 2 .undef), (e64.getD 0 .undef), (e64.getD 1 .undef), (e64.getD 2 .undef)] 3).bind fun e67 =>
            (gcall G none 31 [x6, x7, x8, x50] 3).bind fun e70 =>
            (gcall G none 30 [(e67.getD 0 .undef), (e67.getD 1 .undef), (e67.getD 2 .undef), (e70.getD 0 .undef), (e70.getD 1 .undef), (e70.getD 2 .undef)] 3).bind fun e73 =>
            (gev none (.far .add .f32) [x40, x45]).bind fun x76 =>
            (gev none (.far .add .f32) [x76, x50]).bind fun x77 =>
            (gev none (.far .quo .f32) [(.flt 1065353216), x77]).bind fun x78 =>
            (gcall G none 31 [(e73.getD 0 .undef), (e73.getD 1 .undef), (e73.getD 2 .undef), x78] 3).bind fun e79 =>
            (gev none (.iar .add .i64) [(e31.getD 3 .undef), (.int 1)]).bind fun x82 =>
            some (0, [(e79.getD 0 .undef), (e79.getD 1 .undef), (e79.getD 2 .undef), x82]))) (
          some (1, [(e31.getD 0 .undef), (e31.getD 1 .undef), (e31.getD 2 .undef), (e31.getD 3 .undef), (e31.getD 3 .undef), x9, x35]))
def S32s (G : Told) (fuel : Nat) (x0 x1 x2 x3 x4 x5 x6 x7 x8 x9 : D) : Option (Nat × List D) :=
  (gcall G none 18 [x0, x1, x2] 1).bind fun e10 =>
  (gev none .bnot [(e10.getD 0 .undef)]).bind fun x11 =>
  (gcall G (some (x11, false)) 18 [x3, x4, x5] 1).bind fun e12 =>
  (gev (some (x11, false)) .bnot [(e12.getD 0 .undef)]).bind fun x13 =>
  (gev none .pick [x11, (.bool true), x13]).bind fun x14 =>
  (gcall G (some (x14, false)) 18 [x6, x7, x8] 1).bind fun e15 =>
  (gev (some (x14, false)) .bnot [(e15.getD 0 .undef)]).bind fun x16 =>
  (gev none .pick [x14, (.bool true), x16]).bind fun x17 =>
  (gev (some (x17, false)) .id [x9]).bind fun x18 =>
  (gcall G (some (x17, false)) 19 [x18, (.int 0), (.int 100)] 1).bind fun e19 =>
  (gev (some (x17, false)) .bnot [(e19.getD 0 .undef)]).bind fun x20 =>
  (gev none .pick [x17, (.bool true), x20]).bind fun x21 =>
  tif x21 (
    some (0, [(.flt 0), (.flt 0), (.flt 0), (.bool false)])) (
    (gcall G none 30 [x0, x1, x2, x3, x4, x5] 3).bind fun e22 =>
    (gcall G none 30 [(e22.getD 0 .undef), (e22.getD 1 .undef), (e22.getD 2 .undef), x6, x7, x8] 3).bind fun e25 =>
    (gcall G none 31 [(e25.getD 0 .undef), (e25.getD 1 .undef), (e25.getD 2 .undef), (.flt 1051372203)] 3).bind fun e28 =>
    tjoin 7 (
      iter (tbody 4 (S32sL0 G x0 x1 x2 x3 x4 x5 x6 x7 x8 x9)) fuel [(e28.getD 0 .undef), (e28.getD 1 .undef), (e28.getD 2 .undef), (.int 0)]) fun e31 =>
    some (0, [(e31.getD 0 .undef), (e31.getD 1 .undef), (e31.getD 2 .undef), (.bool true)]))
theorem eq32s {G : Told} {fuel : Nat} (x0 x1 x2 x3 x4 x5 x6 x7 x8 x9 : D) : run G fuel T32s [x0, x1, x2, x3, x4, x5, x6, x7, x8, x9] = S32s G fuel x0 x1 x2 x3 x4 x5 x6 x7 x8 x9 := by
  rw [run_eq]; kernel_rfl

end Vs

namespace Vs
open Go

def sgVB : Sig := ⟨[pV], [rv .bool]⟩
def sgVfV : Sig := ⟨[pV, pv f1], [rV]⟩
def sgIII : Sig := ⟨[pv i8, pv i8, pv i8], [rv .bool]⟩
def sgMP : Sig := ⟨[pV, pV, pV, pv i8], [rV, rv .bool]⟩

structure V3 where
  x : Nat
  y : Nat
  z : Nat
def V3.add (a b : V3) : V3 := ⟨fadd .f32 a.x b.x, fadd .f32 a.y b.y, fadd .f32 a.z b.z⟩
def V3.scale (a : V3) (k : Nat) : V3 := ⟨fmul .f32 a.x k, fmul .f32 a.y k, fmul .f32 a.z k⟩
def V3.away (p a : V3) : Nat := awayP p.x p.y p.z a.x a.y a.z
def V3.fin (a : V3) : Bool := finP a.x && finP a.y && finP a.z
def V3.ds (a : V3) : List D := [.flt a.x, .flt a.y, .flt a.z]
def part1 (x : Nat) : Nat := fdiv .f32 1065353216 x

def meetStep (a b c p : V3) : Option V3 :=
  let u := part1 (p.away a)
  let v := part1 (p.away b)
  let w := part1 (p.away c)
  if finP u && finP v && finP w then some ((((a.scale u).add (b.scale v)).add (c.scale w)).scale (part1 (fadd .f32 (fadd .f32 u v) w))) else none
def goN (step : V3 → Option V3) : Nat → V3 → V3
  | 0, p => p
  | n + 1, p => match step p with | some q => goN step n q | none => p
theorem goN_none {step : V3 → Option V3} {p : V3} {k : Nat} (h : step p = none) : goN step (k + 1) p = p := by simp only [goN, h]
theorem goN_some {step : V3 → Option V3} {p q : V3} {k : Nat} (h : step p = some q) : goN step (k + 1) p = goN step k q := by simp only [goN, h]
def meetN (a b c : V3) (n : Nat) (p : V3) : V3 := goN (meetStep a b c) n p
theorem meetN_none {a b c p : V3} {k : Nat} (h : meetStep a b c p = none) : meetN a b c (k + 1) p = p := goN_none h
theorem meetN_some {a b c p q : V3} {k : Nat} (h : meetStep a b c p = some q) : meetN a b c (k + 1) p = meetN a b c k q := goN_some h
def meetP (a b c : V3) (n : Int) : Option V3 :=
  if a.fin && b.fin && c.fin && decide (0 ≤ n) && decide (n ≤ 100) then some (meetN a b c n.toNat (((a.add b).add c).scale 1051372203)) else none

def F18 : List D → Option (List D) | [.flt a, .flt b, .flt c] => some [.bool (V3.fin ⟨a, b, c⟩)] | _ => none
def F19 : List D → Option (List D) | [.int n, .int a, .int b] => some [.bool (decide (a ≤ n) && decide (n ≤ b))] | _ => none
def F30 : List D → Option (List D) | [.flt a, .flt b, .flt c, .flt x, .flt y, .flt z] => some (V3.add ⟨a, b, c⟩ ⟨x, y, z⟩).ds | _ => none
def F31 : List D → Option (List D) | [.flt a, .flt b, .flt c, .flt k] => some (V3.scale ⟨a, b, c⟩ k).ds | _ => none
def F32 : List D → Option (List D)
  | [.flt a, .flt b, .flt c, .flt d, .flt e, .flt f, .flt x, .flt y, .flt z, .int n] =>
    some (match meetP ⟨a, b, c⟩ ⟨d, e, f⟩ ⟨x, y, z⟩ n with | some p => p.ds ++ [.bool true] | none => [.flt 0, .flt 0, .flt 0, .bool false])
  | _ => none

def T18 : T :=
(.call none 1 [(.v 0)] 1 <|
(.op (some ((.v 3), true)) .id [(.v 1)] <|
(.call (some ((.v 3), true)) 1 [(.v 4)] 1 <|
(.op none .pick [(.v 3), (.v 5), (.c (.bool false))] <|
(.op (some ((.v 6), true)) .id [(.v 2)] <|
(.call (some ((.v 6), true)) 1 [(.v 7)] 1 <|
(.op none .pick [(.v 6), (.v 8), (.c (.bool false))] <|
(.out 0 [(.v 9)]))))))))
def T19 : T :=
(.op none (.icm .geq) [(.v 0), (.v 1)] <|
(.op (some ((.v 3), true)) .id [(.v 0)] <|
(.op (some ((.v 3), true)) .id [(.v 2)] <|
(.op (some ((.v 3), true)) (.icm .leq) [(.v 4), (.v 5)] <|
(.op none .pick [(.v 3), (.v 6), (.c (.bool false))] <|
(.out 0 [(.v 7)]))))))
def T30 : T :=
(.op none (.far .add .f32) [(.v 0), (.v 3)] <|
(.op none (.far .add .f32) [(.v 1), (.v 4)] <|
(.op none (.far .add .f32) [(.v 2), (.v 5)] <|
(.out 0 [(.v 6), (.v 7), (.v 8)]))))
def T31 : T :=
(.op none (.far .mul .f32) [(.v 0), (.v 3)] <|
(.op none (.far .mul .f32) [(.v 1), (.v 3)] <|
(.op none (.far .mul .f32) [(.v 2), (.v 3)] <|
(.out 0 [(.v 4), (.v 5), (.v 6)]))))

theorem run18 {G : Told} (g1 : G 1 = F1) : ∀ ds rs, F18 ds = some rs → ∃ fuel, run G fuel T18 ds = some (0, rs) := by
  intro ds rs h
  simp only [F18] at h
  split at h <;> simp only [Option.some.injEq, reduceCtorEq] at h
  subst h
  rename_i a b c
  refine ⟨0, ?_⟩
  cases h1 : finP a <;> cases h2 : finP b <;> cases h3 : finP c <;> simp [T18, run, Guard.ok, evs, Atom.ev, Prim.ev, g1, F1, V3.fin, h1, h2, h3]
theorem run19 {G : Told} : ∀ ds rs, F19 ds = some rs → ∃ fuel, run G fuel T19 ds = some (0, rs) := by
  intro ds rs h
  simp only [F19] at h
  split at h <;> simp only [Option.some.injEq, reduceCtorEq] at h
  subst h
  rename_i n a b
  refine ⟨0, ?_⟩
  by_cases h1 : a ≤ n <;> simp [T19, run, Guard.ok, evs, Atom.ev, Prim.ev, icmp, h1]
theorem run30 {G : Told} : ∀ ds rs, F30 ds = some rs → ∃ fuel, run G fuel T30 ds = some (0, rs) := by
  intro ds rs h
  simp only [F30] at h
  split at h <;> simp only [Option.some.injEq, reduceCtorEq] at h
  subst h
  exact ⟨0, by simp [T30, run, Guard.ok, evs, Atom.ev, Prim.ev, farith, V3.add, V3.ds]⟩
theorem run31 {G : Told} : ∀ ds rs, F31 ds = some rs → ∃ fuel, run G fuel T31 ds = some (0, rs) := by
  intro ds rs h
  simp only [F31] at h
  split at h <;> simp only [Option.some.injEq, reduceCtorEq] at h
  subst h
  exact ⟨0, by simp [T31, run, Guard.ok, evs, Atom.ev, Prim.ev, farith, V3.scale, V3.ds]⟩

theorem wrap_small {i : Int} (h0 : 0 ≤ i) (h1 : i ≤ 1000000) : IntKind.wrap .i64 i = i := by
  simp only [IntKind.wrap, IntKind.bits, IntKind.signed]
  have : i % 2 ^ 64 = i := Int.emod_eq_of_lt h0 (by omega)
  simp only [this]
  split
  · rename_i h
    simp at h
    omega
  · rfl

attribute [local irreducible] fadd fsub fmul fdiv finP feq flt fle rootP longP innerP
set_option maxHeartbeats 4000000 in
theorem step32 {G : Told} (g1 : G 1 = F1) (g13 : G 13 = F13) (g15 : G 15 = F15) (g30 : G 30 = F30) (g31 : G 31 = F31) (a b c p : V3) (n i : Int) :
    tbody 4 (S32L0 G (.flt a.x) (.flt a.y) (.flt a.z) (.flt b.x) (.flt b.y) (.flt b.z) (.flt c.x) (.flt c.y) (.flt c.z) (.int n)) [.flt p.x, .flt p.y, .flt p.z, .int i] = some (if i < n then (match meetStep a b c p with
      | some q => (0, [.flt q.x, .flt q.y, .flt q.z, .int (IntKind.wrap .i64 (i + 1))])
      | none => (1, [.flt p.x, .flt p.y, .flt p.z] ++ [.int i] ++ [.bool true])) else (1, [.flt p.x, .flt p.y, .flt p.z] ++ [.int i] ++ [.bool false])) := by
  refine (if_pos rfl).trans ?_
  by_cases hi : i < n
  · have hi' : decide (i < n) = true := by simpa using hi
    rw [if_pos hi]
    unfold S32L0
    have e1 : part1 (p.away a) = fdiv .f32 1065353216 (longP (fsub .f32 p.x a.x) (fsub .f32 p.y a.y) (fsub .f32 p.z a.z)) := rfl
    have e2 : part1 (p.away b) = fdiv .f32 1065353216 (longP (fsub .f32 p.x b.x) (fsub .f32 p.y b.y) (fsub .f32 p.z b.z)) := rfl
    have e3 : part1 (p.away c) = fdiv .f32 1065353216 (longP (fsub .f32 p.x c.x) (fsub .f32 p.y c.y) (fsub .f32 p.z c.z)) := rfl
    cases h1 : finP (fdiv .f32 1065353216 (longP (fsub .f32 p.x a.x) (fsub .f32 p.y a.y) (fsub .f32 p.z a.z))) <;> cases h2 : finP (fdiv .f32 1065353216 (longP (fsub .f32 p.x b.x) (fsub .f32 p.y b.y) (fsub .f32 p.z b.z))) <;>
      cases h3 : finP (fdiv .f32 1065353216 (longP (fsub .f32 p.x c.x) (fsub .f32 p.y c.y) (fsub .f32 p.z c.z))) <;> (
      simp only [meetStep, e1, e2, e3, h1, h2, h3]
      repeat' first
      | (apply st_callt; assumption; exact rfl; exact rfl; assumption)
      | (apply st_callf; assumption; exact rfl; exact rfl; assumption)
      | (apply st_call; assumption; exact rfl; exact rfl; exact rfl)
      | (apply st_skip; exact rfl)
      | (apply st_t; exact rfl; exact rfl)
      | (apply st_f; exact rfl; exact rfl)
      | (apply st_t; exact rfl; assumption)
      | (apply st_f; exact rfl; assumption)
      | (apply st_some; exact rfl)
      | refine st_ift ?_
      | refine st_iff ?_
      | exact rfl)
  · have hi' : decide (i < n) = false := by simpa using hi
    rw [if_neg hi]
    unfold S32L0
    repeat' first
      | (apply st_callt; assumption; exact rfl; exact rfl; assumption)
      | (apply st_callf; assumption; exact rfl; exact rfl; assumption)
      | (apply st_call; assumption; exact rfl; exact rfl; exact rfl)
      | (apply st_skip; exact rfl)
      | (apply st_t; exact rfl; exact rfl)
      | (apply st_f; exact rfl; exact rfl)
      | (apply st_t; exact rfl; assumption)
      | (apply st_f; exact rfl; assumption)
      | (apply st_some; exact rfl)
      | refine st_ift ?_
      | refine st_iff ?_
      | exact rfl

set_option maxHeartbeats 4000000 in
theorem step32s {G : Told} (g1 : G 1 = F1) (g13 : G 13 = F13) (g15 : G 15 = F15) (g30 : G 30 = F30) (g31 : G 31 = F31) (a b c p : V3) (n i : Int) :
    tbody 4 (S32sL0 G (.flt a.x) (.flt a.y) (.flt a.z) (.flt b.x) (.flt b.y) (.flt b.z) (.flt c.x) (.flt c.y) (.flt c.z) (.int n)) [.flt p.x, .flt p.y, .flt p.z, .int i] = some (if i < n then (match meetStep a b c p with
      | some q => (0, [.flt q.x, .flt q.y, .flt q.z, .int (IntKind.wrap .i64 (i + 1))])
      | none => (1, [.flt p.x, .flt p.y, .flt p.z] ++ [.int i, .int i, .int n] ++ [.bool true])) else (1, [.flt p.x, .flt p.y, .flt p.z] ++ [.int i, .int i, .int n] ++ [.bool false])) := by
  refine (if_pos rfl).trans ?_
  by_cases hi : i < n
  · have hi' : decide (i < n) = true := by simpa using hi
    rw [if_pos hi]
    unfold S32sL0
    have e1 : part1 (p.away a) = fdiv .f32 1065353216 (longP (fsub .f32 p.x a.x) (fsub .f32 p.y a.y) (fsub .f32 p.z a.z)) := rfl
    have e2 : part1 (p.away b) = fdiv .f32 1065353216 (longP (fsub .f32 p.x b.x) (fsub .f32 p.y b.y) (fsub .f32 p.z b.z)) := rfl
    have e3 : part1 (p.away c) = fdiv .f32 1065353216 (longP (fsub .f32 p.x c.x) (fsub .f32 p.y c.y) (fsub .f32 p.z c.z)) := rfl
    cases h1 : finP (fdiv .f32 1065353216 (longP (fsub .f32 p.x a.x) (fsub .f32 p.y a.y) (fsub .f32 p.z a.z))) <;> cases h2 : finP (fdiv .f32 1065353216 (longP (fsub .f32 p.x b.x) (fsub .f32 p.y b.y) (fsub .f32 p.z b.z))) <;>
      cases h3 : finP (fdiv .f32 1065353216 (longP (fsub .f32 p.x c.x) (fsub .f32 p.y c.y) (fsub .f32 p.z c.z))) <;> (
      simp only [meetStep, e1, e2, e3, h1, h2, h3]
      repeat' first
      | (apply st_callt; assumption; exact rfl; exact rfl; assumption)
      | (apply st_callf; assumption; exact rfl; exact rfl; assumption)
      | (apply st_call; assumption; exact rfl; exact rfl; exact rfl)
      | (apply st_skip; exact rfl)
      | (apply st_t; exact rfl; exact rfl)
      | (apply st_f; exact rfl; exact rfl)
      | (apply st_t; exact rfl; assumption)
      | (apply st_f; exact rfl; assumption)
      | (apply st_some; exact rfl)
      | refine st_ift ?_
      | refine st_iff ?_
      | exact rfl)
  · have hi' : decide (i < n) = false := by simpa using hi
    rw [if_neg hi]
    unfold S32sL0
    repeat' first
      | (apply st_callt; assumption; exact rfl; exact rfl; assumption)
      | (apply st_callf; assumption; exact rfl; exact rfl; assumption)
      | (apply st_call; assumption; exact rfl; exact rfl; exact rfl)
      | (apply st_skip; exact rfl)
      | (apply st_t; exact rfl; exact rfl)
      | (apply st_f; exact rfl; exact rfl)
      | (apply st_t; exact rfl; assumption)
      | (apply st_f; exact rfl; assumption)
      | (apply st_some; exact rfl)
      | refine st_ift ?_
      | refine st_iff ?_
      | exact rfl

/-- The rounds. -/
theorem rounds32 {step : List D → Option (Nat × List D)} {a b c : V3} {n : Int} {rest : Int → List D} (hn : n ≤ 100)
    (hs : ∀ p i, step [.flt p.x, .flt p.y, .flt p.z, .int i] = some (if i < n then (match meetStep a b c p with
      | some q => (0, [.flt q.x, .flt q.y, .flt q.z, .int (IntKind.wrap .i64 (i + 1))])
      | none => (1, [.flt p.x, .flt p.y, .flt p.z] ++ rest i ++ [.bool true])) else (1, [.flt p.x, .flt p.y, .flt p.z] ++ rest i ++ [.bool false]))) :
    ∀ (k : Nat) (p : V3) (i : Int), 0 ≤ i → (n - i).toNat = k → ∃ j w, iter step (k + 1) [.flt p.x, .flt p.y, .flt p.z, .int i] = some (0, [.flt (meetN a b c k p).x, .flt (meetN a b c k p).y, .flt (meetN a b c k p).z] ++ rest j ++ [.bool w])
  | 0, p, i, h0, hk => by
    have : ¬ i < n := by omega
    refine ⟨i, false, iter_end (l := 0) (ds' := [.flt p.x, .flt p.y, .flt p.z] ++ rest i ++ [.bool false]) ?_ rfl⟩
    rw [hs, if_neg this]
  | k + 1, p, i, h0, hk => by
    have : i < n := by omega
    cases hm : meetStep a b c p with
    | none =>
      refine ⟨i, true, iter_end (l := 0) (ds' := [.flt p.x, .flt p.y, .flt p.z] ++ rest i ++ [.bool true]) ?_ ?_⟩
      · rw [hs, if_pos this, hm]
      · rw [meetN_none hm]
    | some q =>
      obtain ⟨j, w, hj⟩ := rounds32 hn hs k q (i + 1) (by omega) (by omega)
      refine ⟨j, w, iter_go (ds' := [.flt q.x, .flt q.y, .flt q.z, .int (i + 1)]) ?_ ?_⟩
      · rw [hs, if_pos this, hm]
        dsimp only
        rw [wrap_small (by omega) (by omega)]
      · rw [hj, meetN_some hm]

set_option maxHeartbeats 4000000 in
theorem run32 {G : Told} (g1 : G 1 = F1) (g13 : G 13 = F13) (g15 : G 15 = F15) (g18 : G 18 = F18) (g19 : G 19 = F19) (g30 : G 30 = F30) (g31 : G 31 = F31) : ∀ ds rs, F32 ds = some rs → ∃ fuel, run G fuel T32 ds = some (0, rs) := by
  intro ds rs h
  simp only [F32] at h
  split at h <;> simp only [Option.some.injEq, reduceCtorEq] at h
  subst h
  rename_i a b c d e f x y z n
  refine ⟨n.toNat + 1, ?_⟩
  rw [eq32]
  unfold S32 meetP
  cases h1 : V3.fin ⟨a, b, c⟩
  · repeat' first
      | (apply st_callt; assumption; exact rfl; exact rfl; assumption)
      | (apply st_callf; assumption; exact rfl; exact rfl; assumption)
      | (apply st_call; assumption; exact rfl; exact rfl; exact rfl)
      | (apply st_skip; exact rfl)
      | (apply st_t; exact rfl; exact rfl)
      | (apply st_f; exact rfl; exact rfl)
      | (apply st_t; exact rfl; assumption)
      | (apply st_f; exact rfl; assumption)
      | (apply st_some; exact rfl)
      | refine st_ift ?_
      | refine st_iff ?_
      | exact rfl
  cases h2 : V3.fin ⟨d, e, f⟩
  · repeat' first
      | (apply st_callt; assumption; exact rfl; exact rfl; assumption)
      | (apply st_callf; assumption; exact rfl; exact rfl; assumption)
      | (apply st_call; assumption; exact rfl; exact rfl; exact rfl)
      | (apply st_skip; exact rfl)
      | (apply st_t; exact rfl; exact rfl)
      | (apply st_f; exact rfl; exact rfl)
      | (apply st_t; exact rfl; assumption)
      | (apply st_f; exact rfl; assumption)
      | (apply st_some; exact rfl)
      | refine st_ift ?_
      | refine st_iff ?_
      | exact rfl
  cases h3 : V3.fin ⟨x, y, z⟩
  · repeat' first
      | (apply st_callt; assumption; exact rfl; exact rfl; assumption)
      | (apply st_callf; assumption; exact rfl; exact rfl; assumption)
      | (apply st_call; assumption; exact rfl; exact rfl; exact rfl)
      | (apply st_skip; exact rfl)
      | (apply st_t; exact rfl; exact rfl)
      | (apply st_f; exact rfl; exact rfl)
      | (apply st_t; exact rfl; assumption)
      | (apply st_f; exact rfl; assumption)
      | (apply st_some; exact rfl)
      | refine st_ift ?_
      | refine st_iff ?_
      | exact rfl
  cases h4 : (decide (0 ≤ n) && decide (n ≤ 100))
  · have h5 : (true && true && true && decide (0 ≤ n) && decide (n ≤ 100)) = false := by simpa using h4
    rw [h5]
    repeat' first
      | (apply st_callt; assumption; exact rfl; exact rfl; assumption)
      | (apply st_callf; assumption; exact rfl; exact rfl; assumption)
      | (apply st_call; assumption; exact rfl; exact rfl; exact rfl)
      | (apply st_skip; exact rfl)
      | (apply st_t; exact rfl; exact rfl)
      | (apply st_f; exact rfl; exact rfl)
      | (apply st_t; exact rfl; assumption)
      | (apply st_f; exact rfl; assumption)
      | (apply st_some; exact rfl)
      | refine st_ift ?_
      | refine st_iff ?_
      | exact rfl
  · have h5 : (true && true && true && decide (0 ≤ n) && decide (n ≤ 100)) = true := by simpa using h4
    have h6 : 0 ≤ n ∧ n ≤ 100 := by simpa using h4
    rw [h5]
    obtain ⟨j, w, hj⟩ := rounds32 (a := ⟨a, b, c⟩) (b := ⟨d, e, f⟩) (c := ⟨x, y, z⟩) (rest := fun i => [.int i]) h6.2 (fun p i => step32 g1 g13 g15 g30 g31 ⟨a, b, c⟩ ⟨d, e, f⟩ ⟨x, y, z⟩ p n i) n.toNat (V3.scale (V3.add (V3.add ⟨a, b, c⟩ ⟨d, e, f⟩) ⟨x, y, z⟩) 1051372203) 0 (by omega) (by simp)
    repeat' first
      | (apply st_callt; assumption; exact rfl; exact rfl; assumption)
      | (apply st_callf; assumption; exact rfl; exact rfl; assumption)
      | (apply st_call; assumption; exact rfl; exact rfl; exact rfl)
      | (apply st_skip; exact rfl)
      | (apply st_t; exact rfl; exact rfl)
      | (apply st_f; exact rfl; exact rfl)
      | (apply st_t; exact rfl; assumption)
      | (apply st_f; exact rfl; assumption)
      | (apply st_some; exact rfl)
      | refine st_ift ?_
      | refine st_iff ?_
      | exact rfl
    refine st_join hj rfl ?_
    exact rfl

set_option maxHeartbeats 4000000 in
theorem run32s {G : Told} (g1 : G 1 = F1) (g13 : G 13 = F13) (g15 : G 15 = F15) (g18 : G 18 = F18) (g19 : G 19 = F19) (g30 : G 30 = F30) (g31 : G 31 = F31) : ∀ ds rs, F32 ds = some rs → ∃ fuel, run G fuel T32s ds = some (0, rs) := by
  intro ds rs h
  simp only [F32] at h
  split at h <;> simp only [Option.some.injEq, reduceCtorEq] at h
  subst h
  rename_i a b c d e f x y z n
  refine ⟨n.toNat + 1, ?_⟩
  rw [eq32s]
  unfold S32s meetP
  cases h1 : V3.fin ⟨a, b, c⟩
  · repeat' first
      | (apply st_callt; assumption; exact rfl; exact rfl; assumption)
      | (apply st_callf; assumption; exact rfl; exact rfl; assumption)
      | (apply st_call; assumption; exact rfl; exact rfl; exact rfl)
      | (apply st_skip; exact rfl)
      | (apply st_t; exact rfl; exact rfl)
      | (apply st_f; exact rfl; exact rfl)
      | (apply st_t; exact rfl; assumption)
      | (apply st_f; exact rfl; assumption)
      | (apply st_some; exact rfl)
      | refine st_ift ?_
      | refine st_iff ?_
      | exact rfl
  cases h2 : V3.fin ⟨d, e, f⟩
  · repeat' first
      | (apply st_callt; assumption; exact rfl; exact rfl; assumption)
      | (apply st_callf; assumption; exact rfl; exact rfl; assumption)
      | (apply st_call; assumption; exact rfl; exact rfl; exact rfl)
      | (apply st_skip; exact rfl)
      | (apply st_t; exact rfl; exact rfl)
      | (apply st_f; exact rfl; exact rfl)
      | (apply st_t; exact rfl; assumption)
      | (apply st_f; exact rfl; assumption)
      | (apply st_some; exact rfl)
      | refine st_ift ?_
      | refine st_iff ?_
      | exact rfl
  cases h3 : V3.fin ⟨x, y, z⟩
  · repeat' first
      | (apply st_callt; assumption; exact rfl; exact rfl; assumption)
      | (apply st_callf; assumption; exact rfl; exact rfl; assumption)
      | (apply st_call; assumption; exact rfl; exact rfl; exact rfl)
      | (apply st_skip; exact rfl)
      | (apply st_t; exact rfl; exact rfl)
      | (apply st_f; exact rfl; exact rfl)
      | (apply st_t; exact rfl; assumption)
      | (apply st_f; exact rfl; assumption)
      | (apply st_some; exact rfl)
      | refine st_ift ?_
      | refine st_iff ?_
      | exact rfl
  cases h4 : (decide (0 ≤ n) && decide (n ≤ 100))
  · have h5 : (true && true && true && decide (0 ≤ n) && decide (n ≤ 100)) = false := by simpa using h4
    rw [h5]
    repeat' first
      | (apply st_callt; assumption; exact rfl; exact rfl; assumption)
      | (apply st_callf; assumption; exact rfl; exact rfl; assumption)
      | (apply st_call; assumption; exact rfl; exact rfl; exact rfl)
      | (apply st_skip; exact rfl)
      | (apply st_t; exact rfl; exact rfl)
      | (apply st_f; exact rfl; exact rfl)
      | (apply st_t; exact rfl; assumption)
      | (apply st_f; exact rfl; assumption)
      | (apply st_some; exact rfl)
      | refine st_ift ?_
      | refine st_iff ?_
      | exact rfl
  · have h5 : (true && true && true && decide (0 ≤ n) && decide (n ≤ 100)) = true := by simpa using h4
    have h6 : 0 ≤ n ∧ n ≤ 100 := by simpa using h4
    rw [h5]
    obtain ⟨j, w, hj⟩ := rounds32 (a := ⟨a, b, c⟩) (b := ⟨d, e, f⟩) (c := ⟨x, y, z⟩) (rest := fun i => [.int i, .int i, .int n]) h6.2 (fun p i => step32s g1 g13 g15 g30 g31 ⟨a, b, c⟩ ⟨d, e, f⟩ ⟨x, y, z⟩ p n i) n.toNat (V3.scale (V3.add (V3.add ⟨a, b, c⟩ ⟨d, e, f⟩) ⟨x, y, z⟩) 1051372203) 0 (by omega) (by simp)
    repeat' first
      | (apply st_callt; assumption; exact rfl; exact rfl; assumption)
      | (apply st_callf; assumption; exact rfl; exact rfl; assumption)
      | (apply st_call; assumption; exact rfl; exact rfl; exact rfl)
      | (apply st_skip; exact rfl)
      | (apply st_t; exact rfl; exact rfl)
      | (apply st_f; exact rfl; exact rfl)
      | (apply st_t; exact rfl; assumption)
      | (apply st_f; exact rfl; assumption)
      | (apply st_some; exact rfl)
      | refine st_ift ?_
      | refine st_iff ?_
      | exact rfl
    refine st_join hj rfl ?_
    exact rfl

end Vs

namespace Vs
open Go

def sgEqV : Sig := ⟨[pV, pV], [rv .bool]⟩
def sgMPl : Sig := ⟨[pV, pV, pV, pv i8], [rv .bool]⟩
def sameW (x y : Nat) : Bool := sameP (wide x) (wide y)
def eqV (a b : V3) : Bool := sameW a.x b.x && sameW a.y b.y && sameW a.z b.z
theorem eqV_self (a : V3) : eqV a a = true := by simp [eqV, sameW, sameP_self]
def F40 : List D → Option (List D) | [.flt a, .flt b, .flt c, .flt x, .flt y, .flt z] => some [.bool (eqV ⟨a, b, c⟩ ⟨x, y, z⟩)] | _ => none
def F41 : List D → Option (List D) | [.flt _, .flt _, .flt _, .flt _, .flt _, .flt _, .flt _, .flt _, .flt _, .int _] => some [.bool true] | _ => none

def T40 : T :=
(.op none (.f2f .f32 .f64) [(.v 0)] <|
(.op none (.f2f .f32 .f64) [(.v 3)] <|
(.call none 4 [(.v 6), (.v 7)] 1 <|
(.op none .bnot [(.v 8)] <|
(.ite (.v 9)
  (.out 0 [(.c (.bool false))])
  (.op none (.f2f .f32 .f64) [(.v 1)] <|
  (.op none (.f2f .f32 .f64) [(.v 4)] <|
  (.call none 4 [(.v 10), (.v 11)] 1 <|
  (.op none .bnot [(.v 12)] <|
  (.ite (.v 13)
    (.out 0 [(.c (.bool false))])
    (.op none (.f2f .f32 .f64) [(.v 2)] <|
    (.op none (.f2f .f32 .f64) [(.v 5)] <|
    (.call none 4 [(.v 14), (.v 15)] 1 <|
    (.op none .bnot [(.v 16)] <|
    (.ite (.v 17)
      (.out 0 [(.c (.bool false))])
      (.out 0 [(.c (.bool true))]))))))))))))))))
def S40 (G : Told) (_fuel : Nat) (x0 x1 x2 x3 x4 x5 : D) : Option (Nat × List D) :=
  (gev none (.f2f .f32 .f64) [x0]).bind fun x6 =>
  (gev none (.f2f .f32 .f64) [x3]).bind fun x7 =>
  (gcall G none 4 [x6, x7] 1).bind fun e8 =>
  (gev none .bnot [(e8.getD 0 .undef)]).bind fun x9 =>
  tif x9 (
    some (0, [(.bool false)])) (
    (gev none (.f2f .f32 .f64) [x1]).bind fun x10 =>
    (gev none (.f2f .f32 .f64) [x4]).bind fun x11 =>
    (gcall G none 4 [x10, x11] 1).bind fun e12 =>
    (gev none .bnot [(e12.getD 0 .undef)]).bind fun x13 =>
    tif x13 (
      some (0, [(.bool false)])) (
      (gev none (.f2f .f32 .f64) [x2]).bind fun x14 =>
      (gev none (.f2f .f32 .f64) [x5]).bind fun x15 =>
      (gcall G none 4 [x14, x15] 1).bind fun e16 =>
      (gev none .bnot [(e16.getD 0 .undef)]).bind fun x17 =>
      tif x17 (
        some (0, [(.bool false)])) (
        some (0, [(.bool true)]))))
theorem eq40 {G : Told} {fuel : Nat} (x0 x1 x2 x3 x4 x5 : D) : run G fuel T40 [x0, x1, x2, x3, x4, x5] = S40 G fuel x0 x1 x2 x3 x4 x5 := by
  rw [run_eq]; kernel_rfl

def T41 : T :=
(.call none 16 [(.v 0), (.v 1), (.v 2)] 3 <|
(.call none 16 [(.v 3), (.v 4), (.v 5)] 3 <|
(.call none 16 [(.v 6), (.v 7), (.v 8)] 3 <|
(.call none 32 [(.v 10), (.v 11), (.v 12), (.v 13), (.v 14), (.v 15), (.v 16), (.v 17), (.v 18), (.v 9)] 4 <|
(.call none 16 [(.v 0), (.v 1), (.v 2)] 3 <|
(.call none 16 [(.v 3), (.v 4), (.v 5)] 3 <|
(.call none 16 [(.v 6), (.v 7), (.v 8)] 3 <|
(.call none 32 [(.v 23), (.v 24), (.v 25), (.v 26), (.v 27), (.v 28), (.v 29), (.v 30), (.v 31), (.v 9)] 4 <|
(.call none 40 [(.v 32), (.v 33), (.v 34), (.v 19), (.v 20), (.v 21)] 1 <|
(.op none .bnot [(.v 36)] <|
(.op (some ((.v 37), false)) .id [(.v 35)] <|
(.op (some ((.v 37), false)) .id [(.v 22)] <|
(.op (some ((.v 37), false)) .bne [(.v 38), (.v 39)] <|
(.op none .pick [(.v 37), (.c (.bool true)), (.v 40)] <|
(.ite (.v 41)
  (.out 0 [(.c (.bool false))])
  (.out 0 [(.c (.bool true))]))))))))))))))))
def S41 (G : Told) (_fuel : Nat) (x0 x1 x2 x3 x4 x5 x6 x7 x8 x9 : D) : Option (Nat × List D) :=
  (gcall G none 16 [x0, x1, x2] 3).bind fun e10 =>
  (gcall G none 16 [x3, x4, x5] 3).bind fun e13 =>
  (gcall G none 16 [x6, x7, x8] 3).bind fun e16 =>
  (gcall G none 32 [(e10.getD 0 .undef), (e10.getD 1 .undef), (e10.getD 2 .undef), (e13.getD 0 .undef), (e13.getD 1 .undef), (e13.getD 2 .undef), (e16.getD 0 .undef), (e16.getD 1 .undef), (e16.getD 2 .undef), x9] 4).bind fun e19 =>
  (gcall G none 16 [x0, x1, x2] 3).bind fun e23 =>
  (gcall G none 16 [x3, x4, x5] 3).bind fun e26 =>
  (gcall G none 16 [x6, x7, x8] 3).bind fun e29 =>
  (gcall G none 32 [(e23.getD 0 .undef), (e23.getD 1 .undef), (e23.getD 2 .undef), (e26.getD 0 .undef), (e26.getD 1 .undef), (e26.getD 2 .undef), (e29.getD 0 .undef), (e29.getD 1 .undef), (e29.getD 2 .undef), x9] 4).bind fun e32 =>
  (gcall G none 40 [(e32.getD 0 .undef), (e32.getD 1 .undef), (e32.getD 2 .undef), (e19.getD 0 .undef), (e19.getD 1 .undef), (e19.getD 2 .undef)] 1).bind fun e36 =>
  (gev none .bnot [(e36.getD 0 .undef)]).bind fun x37 =>
  (gev (some (x37, false)) .id [(e32.getD 3 .undef)]).bind fun x38 =>
  (gev (some (x37, false)) .id [(e19.getD 3 .undef)]).bind fun x39 =>
  (gev (some (x37, false)) .bne [x38, x39]).bind fun x40 =>
  (gev none .pick [x37, (.bool true), x40]).bind fun x41 =>
  tif x41 (
    some (0, [(.bool false)])) (
    some (0, [(.bool true)]))
theorem eq41 {G : Told} {fuel : Nat} (x0 x1 x2 x3 x4 x5 x6 x7 x8 x9 : D) : run G fuel T41 [x0, x1, x2, x3, x4, x5, x6, x7, x8, x9] = S41 G fuel x0 x1 x2 x3 x4 x5 x6 x7 x8 x9 := by
  rw [run_eq]; kernel_rfl

attribute [local irreducible] sameP wide meetP
set_option maxHeartbeats 4000000 in
theorem run40 {G : Told} (g4 : G 4 = F4) : ∀ ds rs, F40 ds = some rs → ∃ fuel, run G fuel T40 ds = some (0, rs) := by
  intro ds rs h
  simp only [F40] at h
  split at h <;> simp only [Option.some.injEq, reduceCtorEq] at h
  subst h
  rename_i a b c x y z
  refine ⟨0, ?_⟩
  rw [eq40]
  unfold S40 eqV sameW
  cases h1 : sameP (wide a) (wide x)
  · repeat' first
      | (apply st_callt; assumption; exact rfl; exact rfl; assumption)
      | (apply st_callf; assumption; exact rfl; exact rfl; assumption)
      | (apply st_call; assumption; exact rfl; exact rfl; exact rfl)
      | (apply st_wide; exact rfl; exact rfl)
      | (apply st_skip; exact rfl)
      | (apply st_t; exact rfl; exact rfl)
      | (apply st_f; exact rfl; exact rfl)
      | (apply st_t; exact rfl; assumption)
      | (apply st_f; exact rfl; assumption)
      | (apply st_some; exact rfl)
      | refine st_ift ?_
      | refine st_iff ?_
      | exact rfl
  cases h2 : sameP (wide b) (wide y)
  · repeat' first
      | (apply st_callt; assumption; exact rfl; exact rfl; assumption)
      | (apply st_callf; assumption; exact rfl; exact rfl; assumption)
      | (apply st_call; assumption; exact rfl; exact rfl; exact rfl)
      | (apply st_wide; exact rfl; exact rfl)
      | (apply st_skip; exact rfl)
      | (apply st_t; exact rfl; exact rfl)
      | (apply st_f; exact rfl; exact rfl)
      | (apply st_t; exact rfl; assumption)
      | (apply st_f; exact rfl; assumption)
      | (apply st_some; exact rfl)
      | refine st_ift ?_
      | refine st_iff ?_
      | exact rfl
  cases h3 : sameP (wide c) (wide z)
  · repeat' first
      | (apply st_callt; assumption; exact rfl; exact rfl; assumption)
      | (apply st_callf; assumption; exact rfl; exact rfl; assumption)
      | (apply st_call; assumption; exact rfl; exact rfl; exact rfl)
      | (apply st_wide; exact rfl; exact rfl)
      | (apply st_skip; exact rfl)
      | (apply st_t; exact rfl; exact rfl)
      | (apply st_f; exact rfl; exact rfl)
      | (apply st_t; exact rfl; assumption)
      | (apply st_f; exact rfl; assumption)
      | (apply st_some; exact rfl)
      | refine st_ift ?_
      | refine st_iff ?_
      | exact rfl
  · repeat' first
      | (apply st_callt; assumption; exact rfl; exact rfl; assumption)
      | (apply st_callf; assumption; exact rfl; exact rfl; assumption)
      | (apply st_call; assumption; exact rfl; exact rfl; exact rfl)
      | (apply st_wide; exact rfl; exact rfl)
      | (apply st_skip; exact rfl)
      | (apply st_t; exact rfl; exact rfl)
      | (apply st_f; exact rfl; exact rfl)
      | (apply st_t; exact rfl; assumption)
      | (apply st_f; exact rfl; assumption)
      | (apply st_some; exact rfl)
      | refine st_ift ?_
      | refine st_iff ?_
      | exact rfl
set_option maxHeartbeats 4000000 in
theorem run41 {G : Told} (g16 : G 16 = F16) (g32 : G 32 = F32) (g40 : G 40 = F40) : ∀ ds rs, F41 ds = some rs → ∃ fuel, run G fuel T41 ds = some (0, rs) := by
  intro ds rs h
  simp only [F41] at h
  split at h <;> simp only [Option.some.injEq, reduceCtorEq] at h
  subst h
  rename_i a b c d e f x y z n
  refine ⟨0, ?_⟩
  rw [eq41]
  unfold S41
  have h32 : ∃ (p : V3) (w : Bool), F32 [.flt a, .flt b, .flt c, .flt d, .flt e, .flt f, .flt x, .flt y, .flt z, .int n] = some [.flt p.x, .flt p.y, .flt p.z, .bool w] := by
    simp only [F32]
    cases meetP ⟨a, b, c⟩ ⟨d, e, f⟩ ⟨x, y, z⟩ n with
    | none => exact ⟨⟨0, 0, 0⟩, false, rfl⟩
    | some p => exact ⟨p, true, rfl⟩
  obtain ⟨p, w, h32⟩ := h32
  have hv : eqV ⟨p.x, p.y, p.z⟩ ⟨p.x, p.y, p.z⟩ = true := eqV_self _
  cases w <;> (
    repeat' first
      | (apply st_call; assumption; exact rfl; exact h32; exact rfl)
      | (apply st_callt; assumption; exact rfl; exact rfl; assumption)
      | (apply st_callf; assumption; exact rfl; exact rfl; assumption)
      | (apply st_call; assumption; exact rfl; exact rfl; exact rfl)
      | (apply st_wide; exact rfl; exact rfl)
      | (apply st_skip; exact rfl)
      | (apply st_t; exact rfl; exact rfl)
      | (apply st_f; exact rfl; exact rfl)
      | (apply st_t; exact rfl; assumption)
      | (apply st_f; exact rfl; assumption)
      | (apply st_some; exact rfl)
      | refine st_ift ?_
      | refine st_iff ?_
      | exact rfl)

end Vs

namespace Vs
open Go

theorem wrapU {i : Int} (h0 : 0 ≤ i) (h : i < 4611686018427387904) : IntKind.wrap .i64 (i + 1) = i + 1 := by
  simp only [IntKind.wrap, IntKind.bits, IntKind.signed]
  have : (i + 1) % 2 ^ 64 = i + 1 := Int.emod_eq_of_lt (by omega) (by omega)
  simp only [this]
  split
  · rename_i h
    simp at h
    omega
  · rfl
theorem tb {m : Nat} {k : List D → Option (Nat × List D)} {ds : List D} {X : Option (Nat × List D)} (h : ds.length = m) (hk : k ds = X) : tbody m k ds = X := by simp [tbody, h, hk]
theorem idx_at {xs ys : List D} {y : D} {n : Int} (h : n = xs.length) : gev none .idx [.lst (xs ++ y :: ys), .int n] = some y := by
  subst h
  have h2 : (xs.length : Int) < ((xs ++ y :: ys).length : Int) := by simp; omega
  simp only [gev, gok, if_true, Prim.ev]
  rw [if_pos ⟨by omega, h2⟩]
  simp
theorem set_at {xs ys : List D} {y z : D} {n : Int} (h : n = xs.length) : gev none .set [.lst (xs ++ y :: ys), .int n, z] = some (.lst (xs ++ z :: ys)) := by
  subst h
  have h2 : (xs.length : Int) < ((xs ++ y :: ys).length : Int) := by simp; omega
  simp only [gev, gok, if_true, Prim.ev]
  rw [if_pos ⟨by omega, h2⟩]
  simp

/-- Marks: whole numbers from m on. -/
def mk : Int → Nat → List D
  | _, 0 => []
  | m, n + 1 => .int m :: mk (m + 1) n
theorem mk_length : ∀ (n : Nat) (m : Int), (mk m n).length = n
  | 0, _ => rfl
  | n + 1, m => by simp [mk, mk_length n]
def tot : List (List D) → Nat
  | [] => 0
  | r :: rs => r.length + tot rs
def mks : Int → List (List D) → List (List D)
  | _, [] => []
  | m, r :: rs => mk m r.length :: mks (m + r.length) rs
theorem tot_mks : ∀ (rs : List (List D)) (m : Int), tot (mks m rs) = tot rs
  | [], _ => rfl
  | r :: rs, m => by simp [tot, mks, mk_length, tot_mks rs]
theorem mks_idem : ∀ (rs : List (List D)) (m : Int), mks m (mks m rs) = mks m rs
  | [], _ => rfl
  | r :: rs, m => by simp [mks, mk_length, mks_idem rs]
theorem mks_length : ∀ (rs : List (List D)) (m : Int), (mks m rs).length = rs.length
  | [], _ => rfl
  | r :: rs, m => by simp [mks, mks_length rs]

def isI : D → Bool | .int _ => true | _ => false
def isL : D → Bool | .lst _ => true | _ => false
def unL : D → List D | .lst l => l | _ => []
theorem unL_map {l : List D} (h : l.all isL = true) : (l.map unL).map D.lst = l := by
  induction l with
  | nil => rfl
  | cons d l ih =>
    simp only [List.all_cons, Bool.and_eq_true] at h
    simp only [List.map_cons, ih h.2]
    cases d <;> first | rfl | simp [isL] at h

open Classical in
noncomputable def F100 : List D → Option (List D)
  | [.lst a, .lst b] => if a = b ∧ a.all isI = true ∧ (a.length : Int) < 4611686018427387904 then some [.bool true] else none
  | _ => none
open Classical in
noncomputable def F101 : List D → Option (List D)
  | [.lst a, .lst b] => if a = b ∧ (∀ x ∈ a, F100 [x, x] = some [.bool true]) ∧ (a.length : Int) < 4611686018427387904 then some [.bool true] else none
  | _ => none
def F102 : List D → Option (List D)
  | [.lst a, .int m] => if 0 ≤ m ∧ m + a.length < 4611686018427387904 then some [.int (m + a.length), .lst (mk m a.length)] else none
  | _ => none
def F103 : List D → Option (List D)
  | [.lst a, .int m] => if a.all isL = true ∧ 0 ≤ m ∧ m + tot (a.map unL) < 4611686018427387904 ∧ (a.length : Int) < 4611686018427387904 then some [.int (m + tot (a.map unL)), .lst ((mks m (a.map unL)).map D.lst)] else none
  | _ => none
open Classical in
noncomputable def F104 : List D → Option (List D)
  | [.lst a, .int m] => if a = mk m a.length ∧ 0 ≤ m ∧ m + a.length < 4611686018427387904 then some [.int (m + a.length)] else none
  | _ => none
open Classical in
noncomputable def F105 : List D → Option (List D)
  | [.lst a, .int m] => if a.all isL = true ∧ a.map unL = mks m (a.map unL) ∧ 0 ≤ m ∧ m + tot (a.map unL) < 4611686018427387904 ∧ (a.length : Int) < 4611686018427387904 then some [.int (m + tot (a.map unL))] else none
  | _ => none

def T100 : T :=
(.op none .len [(.v 0)] <|
(.op none .len [(.v 1)] <|
(.op none (.icm .neq) [(.v 2), (.v 3)] <|
(.ite (.v 4)
  (.out 0 [(.c (.bool false))])
  (.join 4
    (.loop [(.c (.int 0))]
      (.op none .len [(.v 0)] <|
      (.op none (.icm .lss) [(.v 5), (.v 6)] <|
      (.ite (.v 7)
        (.op none .idx [(.v 0), (.v 5)] <|
        (.op none .idx [(.v 1), (.v 5)] <|
        (.op none (.icm .neq) [(.v 8), (.v 9)] <|
        (.ite (.v 10)
          (.out 2 [(.c (.bool false))])
          (.op none (.iar .add .i64) [(.v 5), (.c (.int 1))] <|
          (.out 0 [(.v 11)]))))))
        (.out 1 [(.v 5), (.v 5), (.v 6), (.v 7)])))))
  (.out 0 [(.c (.bool true))]))))))
def S100L0 (_G : Told) (x0 : D) (x1 : D) : List D → Option (Nat × List D) := fun e5 =>
        (gev none .len [x0]).bind fun x6 =>
        (gev none (.icm .lss) [(e5.getD 0 .undef), x6]).bind fun x7 =>
        tif x7 (
          (gev none .idx [x0, (e5.getD 0 .undef)]).bind fun x8 =>
          (gev none .idx [x1, (e5.getD 0 .undef)]).bind fun x9 =>
          (gev none (.icm .neq) [x8, x9]).bind fun x10 =>
          tif x10 (
            some (2, [(.bool false)])) (
            (gev none (.iar .add .i64) [(e5.getD 0 .undef), (.int 1)]).bind fun x11 =>
            some (0, [x11]))) (
          some (1, [(e5.getD 0 .undef), (e5.getD 0 .undef), x6, x7]))
def S100 (G : Told) (fuel : Nat) (x0 x1 : D) : Option (Nat × List D) :=
  (gev none .len [x0]).bind fun x2 =>
  (gev none .len [x1]).bind fun x3 =>
  (gev none (.icm .neq) [x2, x3]).bind fun x4 =>
  tif x4 (
    some (0, [(.bool false)])) (
    tjoin 4 (
      iter (tbody 1 (S100L0 G x0 x1)) fuel [(.int 0)]) fun _e5 =>
    some (0, [(.bool true)]))
theorem eq100 {G : Told} {fuel : Nat} (x0 x1 : D) : run G fuel T100 [x0, x1] = S100 G fuel x0 x1 := by
  rw [run_eq]; kernel_rfl

def T101 : T :=
(.op none .len [(.v 0)] <|
(.op none .len [(.v 1)] <|
(.op none (.icm .neq) [(.v 2), (.v 3)] <|
(.ite (.v 4)
  (.out 0 [(.c (.bool false))])
  (.join 4
    (.loop [(.c (.int 0))]
      (.op none .len [(.v 0)] <|
      (.op none (.icm .lss) [(.v 5), (.v 6)] <|
      (.ite (.v 7)
        (.op none .idx [(.v 0), (.v 5)] <|
        (.op none .idx [(.v 1), (.v 5)] <|
        (.call none 100 [(.v 8), (.v 9)] 1 <|
        (.op none .bnot [(.v 10)] <|
        (.ite (.v 11)
          (.out 2 [(.c (.bool false))])
          (.op none (.iar .add .i64) [(.v 5), (.c (.int 1))] <|
          (.out 0 [(.v 12)])))))))
        (.out 1 [(.v 5), (.v 5), (.v 6), (.v 7)])))))
  (.out 0 [(.c (.bool true))]))))))
def S101L0 (G : Told) (x0 : D) (x1 : D) : List D → Option (Nat × List D) := fun e5 =>
        (gev none .len [x0]).bind fun x6 =>
        (gev none (.icm .lss) [(e5.getD 0 .undef), x6]).bind fun x7 =>
        tif x7 (
          (gev none .idx [x0, (e5.getD 0 .undef)]).bind fun x8 =>
          (gev none .idx [x1, (e5.getD 0 .undef)]).bind fun x9 =>
          (gcall G none 100 [x8, x9] 1).bind fun e10 =>
          (gev none .bnot [(e10.getD 0 .undef)]).bind fun x11 =>
          tif x11 (
            some (2, [(.bool false)])) (
            (gev none (.iar .add .i64) [(e5.getD 0 .undef), (.int 1)]).bind fun x12 =>
            some (0, [x12]))) (
          some (1, [(e5.getD 0 .undef), (e5.getD 0 .undef), x6, x7]))
def S101 (G : Told) (fuel : Nat) (x0 x1 : D) : Option (Nat × List D) :=
  (gev none .len [x0]).bind fun x2 =>
  (gev none .len [x1]).bind fun x3 =>
  (gev none (.icm .neq) [x2, x3]).bind fun x4 =>
  tif x4 (
    some (0, [(.bool false)])) (
    tjoin 4 (
      iter (tbody 1 (S101L0 G x0 x1)) fuel [(.int 0)]) fun _e5 =>
    some (0, [(.bool true)]))
theorem eq101 {G : Told} {fuel : Nat} (x0 x1 : D) : run G fuel T101 [x0, x1] = S101 G fuel x0 x1 := by
  rw [run_eq]; kernel_rfl

def T102 : T :=
(.join 6
  (.loop [(.v 0), (.v 1), (.c (.int 0))]
    (.op none .len [(.v 2)] <|
    (.op none (.icm .lss) [(.v 4), (.v 5)] <|
    (.ite (.v 6)
      (.op none .idx [(.v 2), (.v 4)] <|
      (.op none .set [(.v 2), (.v 4), (.v 3)] <|
      (.op none (.iar .add .i64) [(.v 3), (.c (.int 1))] <|
      (.op none (.iar .add .i64) [(.v 4), (.c (.int 1))] <|
      (.out 0 [(.v 8), (.v 9), (.v 10)])))))
      (.out 1 [(.v 2), (.v 3), (.v 4), (.v 4), (.v 5), (.v 6)])))))
(.out 0 [(.v 3), (.v 2)]))
def S102L0 (_G : Told) : List D → Option (Nat × List D) := fun e2 =>
      (gev none .len [(e2.getD 0 .undef)]).bind fun x5 =>
      (gev none (.icm .lss) [(e2.getD 2 .undef), x5]).bind fun x6 =>
      tif x6 (
        (gev none .idx [(e2.getD 0 .undef), (e2.getD 2 .undef)]).bind fun _x7 =>
        (gev none .set [(e2.getD 0 .undef), (e2.getD 2 .undef), (e2.getD 1 .undef)]).bind fun x8 =>
        (gev none (.iar .add .i64) [(e2.getD 1 .undef), (.int 1)]).bind fun x9 =>
        (gev none (.iar .add .i64) [(e2.getD 2 .undef), (.int 1)]).bind fun x10 =>
        some (0, [x8, x9, x10])) (
        some (1, [(e2.getD 0 .undef), (e2.getD 1 .undef), (e2.getD 2 .undef), (e2.getD 2 .undef), x5, x6]))
def S102 (G : Told) (fuel : Nat) (x0 x1 : D) : Option (Nat × List D) :=
  tjoin 6 (
    iter (tbody 3 (S102L0 G )) fuel [x0, x1, (.int 0)]) fun e2 =>
  some (0, [(e2.getD 1 .undef), (e2.getD 0 .undef)])
theorem eq102 {G : Told} {fuel : Nat} (x0 x1 : D) : run G fuel T102 [x0, x1] = S102 G fuel x0 x1 := by
  rw [run_eq]; kernel_rfl

def T103 : T :=
(.join 6
  (.loop [(.v 0), (.v 1), (.c (.int 0))]
    (.op none .len [(.v 2)] <|
    (.op none (.icm .lss) [(.v 4), (.v 5)] <|
    (.ite (.v 6)
      (.op none .idx [(.v 2), (.v 4)] <|
      (.op none .idx [(.v 2), (.v 4)] <|
      (.call none 102 [(.v 8), (.v 3)] 2 <|
      (.op none .set [(.v 2), (.v 4), (.v 10)] <|
      (.op none (.iar .add .i64) [(.v 4), (.c (.int 1))] <|
      (.out 0 [(.v 11), (.v 9), (.v 12)]))))))
      (.out 1 [(.v 2), (.v 3), (.v 4), (.v 4), (.v 5), (.v 6)])))))
(.out 0 [(.v 3), (.v 2)]))
def S103L0 (G : Told) : List D → Option (Nat × List D) := fun e2 =>
      (gev none .len [(e2.getD 0 .undef)]).bind fun x5 =>
      (gev none (.icm .lss) [(e2.getD 2 .undef), x5]).bind fun x6 =>
      tif x6 (
        (gev none .idx [(e2.getD 0 .undef), (e2.getD 2 .undef)]).bind fun _x7 =>
        (gev none .idx [(e2.getD 0 .undef), (e2.getD 2 .undef)]).bind fun x8 =>
        (gcall G none 102 [x8, (e2.getD 1 .undef)] 2).bind fun e9 =>
        (gev none .set [(e2.getD 0 .undef), (e2.getD 2 .undef), (e9.getD 1 .undef)]).bind fun x11 =>
        (gev none (.iar .add .i64) [(e2.getD 2 .undef), (.int 1)]).bind fun x12 =>
        some (0, [x11, (e9.getD 0 .undef), x12])) (
        some (1, [(e2.getD 0 .undef), (e2.getD 1 .undef), (e2.getD 2 .undef), (e2.getD 2 .undef), x5, x6]))
def S103 (G : Told) (fuel : Nat) (x0 x1 : D) : Option (Nat × List D) :=
  tjoin 6 (
    iter (tbody 3 (S103L0 G )) fuel [x0, x1, (.int 0)]) fun e2 =>
  some (0, [(e2.getD 1 .undef), (e2.getD 0 .undef)])
theorem eq103 {G : Told} {fuel : Nat} (x0 x1 : D) : run G fuel T103 [x0, x1] = S103 G fuel x0 x1 := by
  rw [run_eq]; kernel_rfl

def T104 : T :=
(.join 5
  (.loop [(.v 1), (.c (.int 0))]
    (.op none .len [(.v 0)] <|
    (.op none (.icm .lss) [(.v 3), (.v 4)] <|
    (.ite (.v 5)
      (.op none .idx [(.v 0), (.v 3)] <|
      (.op none (.icm .neq) [(.v 6), (.v 2)] <|
      (.ite (.v 7)
        (.out 2 [(.c (.int (-1)))])
        (.op none (.iar .add .i64) [(.v 2), (.c (.int 1))] <|
        (.op none (.iar .add .i64) [(.v 3), (.c (.int 1))] <|
        (.out 0 [(.v 8), (.v 9)]))))))
      (.out 1 [(.v 2), (.v 3), (.v 3), (.v 4), (.v 5)])))))
(.out 0 [(.v 2)]))
def S104L0 (_G : Told) (x0 : D) : List D → Option (Nat × List D) := fun e2 =>
      (gev none .len [x0]).bind fun x4 =>
      (gev none (.icm .lss) [(e2.getD 1 .undef), x4]).bind fun x5 =>
      tif x5 (
        (gev none .idx [x0, (e2.getD 1 .undef)]).bind fun x6 =>
        (gev none (.icm .neq) [x6, (e2.getD 0 .undef)]).bind fun x7 =>
        tif x7 (
          some (2, [(.int (-1))])) (
          (gev none (.iar .add .i64) [(e2.getD 0 .undef), (.int 1)]).bind fun x8 =>
          (gev none (.iar .add .i64) [(e2.getD 1 .undef), (.int 1)]).bind fun x9 =>
          some (0, [x8, x9]))) (
        some (1, [(e2.getD 0 .undef), (e2.getD 1 .undef), (e2.getD 1 .undef), x4, x5]))
def S104 (G : Told) (fuel : Nat) (x0 x1 : D) : Option (Nat × List D) :=
  tjoin 5 (
    iter (tbody 2 (S104L0 G x0)) fuel [x1, (.int 0)]) fun e2 =>
  some (0, [(e2.getD 0 .undef)])
theorem eq104 {G : Told} {fuel : Nat} (x0 x1 : D) : run G fuel T104 [x0, x1] = S104 G fuel x0 x1 := by
  rw [run_eq]; kernel_rfl

def T105 : T :=
(.join 5
  (.loop [(.v 1), (.c (.int 0))]
    (.op none .len [(.v 0)] <|
    (.op none (.icm .lss) [(.v 3), (.v 4)] <|
    (.ite (.v 5)
      (.op none .idx [(.v 0), (.v 3)] <|
      (.call none 104 [(.v 6), (.v 2)] 1 <|
      (.op none (.icm .lss) [(.v 7), (.c (.int 0))] <|
      (.ite (.v 8)
        (.out 2 [(.c (.int (-1)))])
        (.op none (.iar .add .i64) [(.v 3), (.c (.int 1))] <|
        (.out 0 [(.v 7), (.v 9)]))))))
      (.out 1 [(.v 2), (.v 3), (.v 3), (.v 4), (.v 5)])))))
(.out 0 [(.v 2)]))
def S105L0 (G : Told) (x0 : D) : List D → Option (Nat × List D) := fun e2 =>
      (gev none .len [x0]).bind fun x4 =>
      (gev none (.icm .lss) [(e2.getD 1 .undef), x4]).bind fun x5 =>
      tif x5 (
        (gev none .idx [x0, (e2.getD 1 .undef)]).bind fun x6 =>
        (gcall G none 104 [x6, (e2.getD 0 .undef)] 1).bind fun e7 =>
        (gev none (.icm .lss) [(e7.getD 0 .undef), (.int 0)]).bind fun x8 =>
        tif x8 (
          some (2, [(.int (-1))])) (
          (gev none (.iar .add .i64) [(e2.getD 1 .undef), (.int 1)]).bind fun x9 =>
          some (0, [(e7.getD 0 .undef), x9]))) (
        some (1, [(e2.getD 0 .undef), (e2.getD 1 .undef), (e2.getD 1 .undef), x4, x5]))
def S105 (G : Told) (fuel : Nat) (x0 x1 : D) : Option (Nat × List D) :=
  tjoin 5 (
    iter (tbody 2 (S105L0 G x0)) fuel [x1, (.int 0)]) fun e2 =>
  some (0, [(e2.getD 0 .undef)])
theorem eq105 {G : Told} {fuel : Nat} (x0 x1 : D) : run G fuel T105 [x0, x1] = S105 G fuel x0 x1 := by
  rw [run_eq]; kernel_rfl

set_option maxHeartbeats 4000000 in
theorem loop100 {G : Told} {l : D} : ∀ (ys xs : List D), l = .lst (xs ++ ys) → ys.all isI = true → ((xs ++ ys).length : Int) < 4611686018427387904 →
    ∃ ds, iter (tbody 1 (S100L0 G l l)) (ys.length + 1) [.int xs.length] = some (0, ds) ∧ ds.length = 4 := by
  intro ys
  induction ys with
  | nil =>
    intro xs hl _ _
    subst hl
    have h0 : decide ((xs.length : Int) < ((xs ++ []).length : Int)) = false := by simp
    refine ⟨_, iter_end (l := 0) (ds' := [.int xs.length, .int xs.length, .int (xs ++ []).length, .bool false]) ?_ rfl, rfl⟩
    refine tb rfl ?_
    unfold S100L0
    repeat' first
      | (apply st_callt; assumption; exact rfl; exact rfl; assumption)
      | (apply st_callf; assumption; exact rfl; exact rfl; assumption)
      | (apply st_call; assumption; exact rfl; exact rfl; exact rfl)
      | (apply st_wide; exact rfl; exact rfl)
      | (apply st_skip; exact rfl)
      | (apply st_t; exact rfl; exact rfl)
      | (apply st_f; exact rfl; exact rfl)
      | (apply st_t; exact rfl; assumption)
      | (apply st_f; exact rfl; assumption)
      | (apply st_some; exact rfl)
      | refine st_ift ?_
      | refine st_iff ?_
      | exact rfl
  | cons y ys ih =>
    intro xs hl hi hb
    obtain ⟨n, rfl⟩ : ∃ n, y = .int n := by
      simp only [List.all_cons, Bool.and_eq_true] at hi
      cases y <;> first | exact ⟨_, rfl⟩ | simp [isI] at hi
    have h0 : decide ((xs.length : Int) < ((xs ++ .int n :: ys).length : Int)) = true := by simp; omega
    have hx : gev none .idx [l, .int xs.length] = some (.int n) := by rw [hl]; exact idx_at rfl
    have hn : (n != n) = false := by simp
    obtain ⟨ds, h1, h2⟩ := ih (xs ++ [.int n]) (by rw [hl]; simp) (by simp only [List.all_cons, Bool.and_eq_true] at hi; exact hi.2) (by simpa using hb)
    refine ⟨ds, iter_go (ds' := [.int ((xs ++ [D.int n]).length : Int)]) ?_ (by simpa using h1), h2⟩
    refine tb rfl ?_
    have hw := wrapU (i := xs.length) (by omega) (by simp at hb; omega)
    rw [show ((xs ++ [D.int n]).length : Int) = IntKind.wrap .i64 ((xs.length : Int) + 1) from by rw [hw]; simp]
    have hlen : gev none .len [l] = some (.int ((xs ++ .int n :: ys).length : Int)) := by rw [hl]; rfl
    clear hl
    unfold S100L0
    repeat' first
      | (apply st_some; exact hx)
      | (apply st_some; exact hlen)
      | (apply st_callt; assumption; exact rfl; exact rfl; assumption)
      | (apply st_callf; assumption; exact rfl; exact rfl; assumption)
      | (apply st_call; assumption; exact rfl; exact rfl; exact rfl)
      | (apply st_wide; exact rfl; exact rfl)
      | (apply st_skip; exact rfl)
      | (apply st_t; exact rfl; exact rfl)
      | (apply st_f; exact rfl; exact rfl)
      | (apply st_t; exact rfl; assumption)
      | (apply st_f; exact rfl; assumption)
      | (apply st_some; exact rfl)
      | refine st_ift ?_
      | refine st_iff ?_
      | exact rfl
set_option maxHeartbeats 4000000 in
theorem run100 {G : Told} : ∀ ds rs, F100 ds = some rs → ∃ fuel, run G fuel T100 ds = some (0, rs) := by
  intro ds rs h
  unfold F100 at h
  split at h
  · rename_i a b
    split at h
    · rename_i hc
      obtain ⟨rfl, hi, hb⟩ := hc
      simp only [Option.some.injEq] at h
      subst h
      obtain ⟨ds, h1, h2⟩ := loop100 (G := G) (l := .lst a) a [] rfl hi hb
      refine ⟨a.length + 1, ?_⟩
      rw [eq100]
      unfold S100
      have hn : ((a.length : Int) != (a.length : Int)) = false := by simp
      repeat' first
        | (apply st_join; exact h1; exact h2)
        | (apply st_callt; assumption; exact rfl; exact rfl; assumption)
        | (apply st_callf; assumption; exact rfl; exact rfl; assumption)
        | (apply st_call; assumption; exact rfl; exact rfl; exact rfl)
        | (apply st_wide; exact rfl; exact rfl)
        | (apply st_skip; exact rfl)
        | (apply st_t; exact rfl; exact rfl)
        | (apply st_f; exact rfl; exact rfl)
        | (apply st_t; exact rfl; assumption)
        | (apply st_f; exact rfl; assumption)
        | (apply st_some; exact rfl)
        | refine st_ift ?_
        | refine st_iff ?_
        | exact rfl
    · cases h
  · cases h

set_option maxHeartbeats 4000000 in
theorem loop104 {G : Told} {l : D} : ∀ (k : Nat) (xs : List D) (m : Int), l = .lst (xs ++ mk m k) → 0 ≤ m → m + k < 4611686018427387904 → (xs.length : Int) + k < 4611686018427387904 →
    ∃ ds, iter (tbody 2 (S104L0 G l)) (k + 1) [.int m, .int xs.length] = some (0, .int (m + k) :: ds) ∧ ds.length = 4 := by
  intro k
  induction k with
  | zero =>
    intro xs m hl _ _ _
    subst hl
    have h0 : decide ((xs.length : Int) < ((xs ++ mk m 0).length : Int)) = false := by simp [mk]
    refine ⟨[.int xs.length, .int xs.length, .int (xs ++ mk m 0).length, .bool false], iter_end (l := 0) (ds' := [.int m, .int xs.length, .int xs.length, .int (xs ++ mk m 0).length, .bool false]) ?_ (by simp), rfl⟩
    refine tb rfl ?_
    unfold S104L0
    repeat' first
      | (apply st_callt; assumption; exact rfl; exact rfl; assumption)
      | (apply st_callf; assumption; exact rfl; exact rfl; assumption)
      | (apply st_call; assumption; exact rfl; exact rfl; exact rfl)
      | (apply st_wide; exact rfl; exact rfl)
      | (apply st_skip; exact rfl)
      | (apply st_t; exact rfl; exact rfl)
      | (apply st_f; exact rfl; exact rfl)
      | (apply st_t; exact rfl; assumption)
      | (apply st_f; exact rfl; assumption)
      | (apply st_some; exact rfl)
      | refine st_ift ?_
      | refine st_iff ?_
      | exact rfl
  | succ k ih =>
    intro xs m hl hm hb hc
    have h0 : decide ((xs.length : Int) < ((xs ++ mk m (k + 1)).length : Int)) = true := by simp [mk]; omega
    have hx : gev none .idx [l, .int xs.length] = some (.int m) := by rw [hl]; exact idx_at rfl
    have hn : (m != m) = false := by simp
    obtain ⟨ds, h1, h2⟩ := ih (xs ++ [.int m]) (m + 1) (by rw [hl]; simp [mk]) (by omega) (by omega) (by simp; omega)
    refine ⟨ds, iter_go (ds' := [.int (m + 1), .int ((xs ++ [D.int m]).length : Int)]) ?_ (by rw [h1]; congr 3; simp; omega), h2⟩
    refine tb rfl ?_
    have hw := wrapU (i := xs.length) (by omega) (by omega)
    rw [show ((xs ++ [D.int m]).length : Int) = IntKind.wrap .i64 ((xs.length : Int) + 1) from by rw [hw]; simp, ← wrapU hm (by omega)]
    have hlen : gev none .len [l] = some (.int ((xs ++ mk m (k + 1)).length : Int)) := by rw [hl]; rfl
    clear hl
    unfold S104L0
    repeat' first
      | (apply st_some; exact hx)
      | (apply st_some; exact hlen)
      | (apply st_callt; assumption; exact rfl; exact rfl; assumption)
      | (apply st_callf; assumption; exact rfl; exact rfl; assumption)
      | (apply st_call; assumption; exact rfl; exact rfl; exact rfl)
      | (apply st_wide; exact rfl; exact rfl)
      | (apply st_skip; exact rfl)
      | (apply st_t; exact rfl; exact rfl)
      | (apply st_f; exact rfl; exact rfl)
      | (apply st_t; exact rfl; assumption)
      | (apply st_f; exact rfl; assumption)
      | (apply st_some; exact rfl)
      | refine st_ift ?_
      | refine st_iff ?_
      | exact rfl
set_option maxHeartbeats 4000000 in
theorem run104 {G : Told} : ∀ ds rs, F104 ds = some rs → ∃ fuel, run G fuel T104 ds = some (0, rs) := by
  intro ds rs h
  unfold F104 at h
  split at h
  · rename_i a m
    split at h
    · rename_i hc
      obtain ⟨ha, hm, hb⟩ := hc
      simp only [Option.some.injEq] at h
      subst h
      obtain ⟨ds, h1, h2⟩ := loop104 (G := G) (l := .lst a) a.length [] m (by rw [← ha]; rfl) hm hb (by simp; omega)
      refine ⟨a.length + 1, ?_⟩
      rw [eq104]
      unfold S104
      refine st_join h1 (by simp [h2]) ?_
      rfl
    · cases h
  · cases h

set_option maxHeartbeats 4000000 in
theorem loop102 {G : Told} : ∀ (ys xs : List D) (m : Int), 0 ≤ m → m + ys.length < 4611686018427387904 → (xs.length : Int) + ys.length < 4611686018427387904 →
    ∃ ds, iter (tbody 3 (S102L0 G)) (ys.length + 1) [.lst (xs ++ ys), .int m, .int xs.length] = some (0, .lst (xs ++ mk m ys.length) :: .int (m + ys.length) :: ds) ∧ ds.length = 4 := by
  intro ys
  induction ys with
  | nil =>
    intro xs m _ _ _
    have h0 : decide ((xs.length : Int) < ((xs ++ []).length : Int)) = false := by simp
    refine ⟨[.int xs.length, .int xs.length, .int (xs ++ []).length, .bool false], iter_end (l := 0) (ds' := [.lst (xs ++ []), .int m, .int xs.length, .int xs.length, .int (xs ++ []).length, .bool false]) ?_ (by simp [mk]), rfl⟩
    refine tb rfl ?_
    unfold S102L0
    repeat' first
      | (apply st_callt; assumption; exact rfl; exact rfl; assumption)
      | (apply st_callf; assumption; exact rfl; exact rfl; assumption)
      | (apply st_call; assumption; exact rfl; exact rfl; exact rfl)
      | (apply st_wide; exact rfl; exact rfl)
      | (apply st_skip; exact rfl)
      | (apply st_t; exact rfl; exact rfl)
      | (apply st_f; exact rfl; exact rfl)
      | (apply st_t; exact rfl; assumption)
      | (apply st_f; exact rfl; assumption)
      | (apply st_some; exact rfl)
      | refine st_ift ?_
      | refine st_iff ?_
      | exact rfl
  | cons y ys ih =>
    intro xs m hm hb hc
    simp only [List.length_cons] at hb hc
    have h0 : decide ((xs.length : Int) < ((xs ++ y :: ys).length : Int)) = true := by simp; omega
    have hx : gev none .idx [.lst (xs ++ y :: ys), .int xs.length] = some y := idx_at rfl
    have hs : gev none .set [.lst (xs ++ y :: ys), .int xs.length, .int m] = some (.lst (xs ++ .int m :: ys)) := set_at rfl
    obtain ⟨ds, h1, h2⟩ := ih (xs ++ [.int m]) (m + 1) (by omega) (by omega) (by simp; omega)
    refine ⟨ds, iter_go (ds' := [.lst (xs ++ .int m :: ys), .int (m + 1), .int ((xs ++ [D.int m]).length : Int)]) ?_ ?_, h2⟩
    · refine tb rfl ?_
      have hw := wrapU (i := xs.length) (by omega) (by omega)
      rw [show ((xs ++ [D.int m]).length : Int) = IntKind.wrap .i64 ((xs.length : Int) + 1) from by rw [hw]; simp, ← wrapU hm (by omega)]
      unfold S102L0
      repeat' first
        | (apply st_some; exact hx)
        | (apply st_some; exact hs)
        | (apply st_callt; assumption; exact rfl; exact rfl; assumption)
        | (apply st_callf; assumption; exact rfl; exact rfl; assumption)
        | (apply st_call; assumption; exact rfl; exact rfl; exact rfl)
        | (apply st_wide; exact rfl; exact rfl)
        | (apply st_skip; exact rfl)
        | (apply st_t; exact rfl; exact rfl)
        | (apply st_f; exact rfl; exact rfl)
        | (apply st_t; exact rfl; assumption)
        | (apply st_f; exact rfl; assumption)
        | (apply st_some; exact rfl)
        | refine st_ift ?_
        | refine st_iff ?_
        | exact rfl
    · have e : xs ++ [D.int m] ++ ys = xs ++ .int m :: ys := by simp
      rw [e] at h1
      refine h1.trans ?_
      simp [mk]
      omega
set_option maxHeartbeats 4000000 in
theorem run102 {G : Told} : ∀ ds rs, F102 ds = some rs → ∃ fuel, run G fuel T102 ds = some (0, rs) := by
  intro ds rs h
  unfold F102 at h
  split at h
  · rename_i a m
    split at h
    · rename_i hc
      obtain ⟨hm, hb⟩ := hc
      simp only [Option.some.injEq] at h
      subst h
      obtain ⟨ds, h1, h2⟩ := loop102 (G := G) a [] m hm hb (by simp; omega)
      refine ⟨a.length + 1, ?_⟩
      rw [eq102]
      unfold S102
      refine st_join h1 (by simp [h2]) ?_
      rfl
    · cases h
  · cases h

set_option maxHeartbeats 4000000 in
theorem loop101 {G : Told} (g100 : G 100 = F100) {l : D} : ∀ (ys xs : List D), l = .lst (xs ++ ys) → (∀ x ∈ ys, F100 [x, x] = some [.bool true]) → ((xs ++ ys).length : Int) < 4611686018427387904 →
    ∃ ds, iter (tbody 1 (S101L0 G l l)) (ys.length + 1) [.int xs.length] = some (0, ds) ∧ ds.length = 4 := by
  intro ys
  induction ys with
  | nil =>
    intro xs hl _ _
    subst hl
    have h0 : decide ((xs.length : Int) < ((xs ++ []).length : Int)) = false := by simp
    refine ⟨_, iter_end (l := 0) (ds' := [.int xs.length, .int xs.length, .int (xs ++ []).length, .bool false]) ?_ rfl, rfl⟩
    refine tb rfl ?_
    unfold S101L0
    repeat' first
      | (apply st_callt; assumption; exact rfl; exact rfl; assumption)
      | (apply st_callf; assumption; exact rfl; exact rfl; assumption)
      | (apply st_call; assumption; exact rfl; exact rfl; exact rfl)
      | (apply st_wide; exact rfl; exact rfl)
      | (apply st_skip; exact rfl)
      | (apply st_t; exact rfl; exact rfl)
      | (apply st_f; exact rfl; exact rfl)
      | (apply st_t; exact rfl; assumption)
      | (apply st_f; exact rfl; assumption)
      | (apply st_some; exact rfl)
      | refine st_ift ?_
      | refine st_iff ?_
      | exact rfl
  | cons y ys ih =>
    intro xs hl hi hb
    have h0 : decide ((xs.length : Int) < ((xs ++ y :: ys).length : Int)) = true := by simp; omega
    have hx : gev none .idx [l, .int xs.length] = some y := by rw [hl]; exact idx_at rfl
    have hf := hi y (by simp)
    obtain ⟨ds, h1, h2⟩ := ih (xs ++ [y]) (by rw [hl]; simp) (fun x hx => hi x (by simp [hx])) (by simpa using hb)
    refine ⟨ds, iter_go (ds' := [.int ((xs ++ [y]).length : Int)]) ?_ (by simpa using h1), h2⟩
    refine tb rfl ?_
    have hw := wrapU (i := xs.length) (by omega) (by simp at hb; omega)
    rw [show ((xs ++ [y]).length : Int) = IntKind.wrap .i64 ((xs.length : Int) + 1) from by rw [hw]; simp]
    have hlen : gev none .len [l] = some (.int ((xs ++ y :: ys).length : Int)) := by rw [hl]; rfl
    clear hl
    unfold S101L0
    repeat' first
      | (apply st_some; exact hx)
      | (apply st_some; exact hlen)
      | (apply st_call; exact g100; exact rfl; exact hf; exact rfl)
      | (apply st_callt; assumption; exact rfl; exact rfl; assumption)
      | (apply st_callf; assumption; exact rfl; exact rfl; assumption)
      | (apply st_call; assumption; exact rfl; exact rfl; exact rfl)
      | (apply st_wide; exact rfl; exact rfl)
      | (apply st_skip; exact rfl)
      | (apply st_t; exact rfl; exact rfl)
      | (apply st_f; exact rfl; exact rfl)
      | (apply st_t; exact rfl; assumption)
      | (apply st_f; exact rfl; assumption)
      | (apply st_some; exact rfl)
      | refine st_ift ?_
      | refine st_iff ?_
      | exact rfl
set_option maxHeartbeats 4000000 in
theorem run101 {G : Told} (g100 : G 100 = F100) : ∀ ds rs, F101 ds = some rs → ∃ fuel, run G fuel T101 ds = some (0, rs) := by
  intro ds rs h
  unfold F101 at h
  split at h
  · rename_i a b
    split at h
    · rename_i hc
      obtain ⟨rfl, hi, hb⟩ := hc
      simp only [Option.some.injEq] at h
      subst h
      obtain ⟨ds, h1, h2⟩ := loop101 g100 (l := .lst a) a [] rfl hi hb
      refine ⟨a.length + 1, ?_⟩
      rw [eq101]
      unfold S101
      have hn : ((a.length : Int) != (a.length : Int)) = false := by simp
      repeat' first
        | (apply st_join; exact h1; exact h2)
        | (apply st_callt; assumption; exact rfl; exact rfl; assumption)
        | (apply st_callf; assumption; exact rfl; exact rfl; assumption)
        | (apply st_call; assumption; exact rfl; exact rfl; exact rfl)
        | (apply st_wide; exact rfl; exact rfl)
        | (apply st_skip; exact rfl)
        | (apply st_t; exact rfl; exact rfl)
        | (apply st_f; exact rfl; exact rfl)
        | (apply st_t; exact rfl; assumption)
        | (apply st_f; exact rfl; assumption)
        | (apply st_some; exact rfl)
        | refine st_ift ?_
        | refine st_iff ?_
        | exact rfl
    · cases h
  · cases h

set_option maxHeartbeats 4000000 in
theorem loop103 {G : Told} (g102 : G 102 = F102) : ∀ (ys : List (List D)) (xs : List D) (m : Int), 0 ≤ m → m + tot ys < 4611686018427387904 → (xs.length : Int) + ys.length < 4611686018427387904 →
    ∃ ds, iter (tbody 3 (S103L0 G)) (ys.length + 1) [.lst (xs ++ ys.map D.lst), .int m, .int xs.length] = some (0, .lst (xs ++ (mks m ys).map D.lst) :: .int (m + tot ys) :: ds) ∧ ds.length = 4 := by
  intro ys
  induction ys with
  | nil =>
    intro xs m _ _ _
    have h0 : decide ((xs.length : Int) < ((xs ++ ([] : List (List D)).map D.lst).length : Int)) = false := by simp
    refine ⟨[.int xs.length, .int xs.length, .int (xs ++ ([] : List (List D)).map D.lst).length, .bool false], iter_end (l := 0) (ds' := [.lst (xs ++ ([] : List (List D)).map D.lst), .int m, .int xs.length, .int xs.length, .int (xs ++ ([] : List (List D)).map D.lst).length, .bool false]) ?_ (by simp [mks, tot]), rfl⟩
    refine tb rfl ?_
    unfold S103L0
    repeat' first
      | (apply st_callt; assumption; exact rfl; exact rfl; assumption)
      | (apply st_callf; assumption; exact rfl; exact rfl; assumption)
      | (apply st_call; assumption; exact rfl; exact rfl; exact rfl)
      | (apply st_wide; exact rfl; exact rfl)
      | (apply st_skip; exact rfl)
      | (apply st_t; exact rfl; exact rfl)
      | (apply st_f; exact rfl; exact rfl)
      | (apply st_t; exact rfl; assumption)
      | (apply st_f; exact rfl; assumption)
      | (apply st_some; exact rfl)
      | refine st_ift ?_
      | refine st_iff ?_
      | exact rfl
  | cons y ys ih =>
    intro xs m hm hb hc
    simp only [List.length_cons, tot, Int.natCast_add] at hb hc
    have h0 : decide ((xs.length : Int) < ((xs ++ (y :: ys).map D.lst).length : Int)) = true := by simp; omega
    have hx : gev none .idx [.lst (xs ++ (y :: ys).map D.lst), .int xs.length] = some (.lst y) := idx_at rfl
    have hs : gev none .set [.lst (xs ++ (y :: ys).map D.lst), .int xs.length, .lst (mk m y.length)] = some (.lst (xs ++ .lst (mk m y.length) :: ys.map D.lst)) := set_at rfl
    have hf : F102 [.lst y, .int m] = some [.int (m + y.length), .lst (mk m y.length)] := by
      simp only [F102]
      rw [if_pos ⟨hm, by omega⟩]
    obtain ⟨ds, h1, h2⟩ := ih (xs ++ [.lst (mk m y.length)]) (m + y.length) (by omega) (by omega) (by simp; omega)
    refine ⟨ds, iter_go (ds' := [.lst (xs ++ .lst (mk m y.length) :: ys.map D.lst), .int (m + y.length), .int ((xs ++ [D.lst (mk m y.length)]).length : Int)]) ?_ ?_, h2⟩
    · refine tb rfl ?_
      have hw := wrapU (i := xs.length) (by omega) (by omega)
      rw [show ((xs ++ [D.lst (mk m y.length)]).length : Int) = IntKind.wrap .i64 ((xs.length : Int) + 1) from by rw [hw]; simp]
      unfold S103L0
      repeat' first
        | (apply st_some; exact hx)
        | (apply st_some; exact hs)
        | (apply st_call; exact g102; exact rfl; exact hf; exact rfl)
        | (apply st_callt; assumption; exact rfl; exact rfl; assumption)
        | (apply st_callf; assumption; exact rfl; exact rfl; assumption)
        | (apply st_call; assumption; exact rfl; exact rfl; exact rfl)
        | (apply st_wide; exact rfl; exact rfl)
        | (apply st_skip; exact rfl)
        | (apply st_t; exact rfl; exact rfl)
        | (apply st_f; exact rfl; exact rfl)
        | (apply st_t; exact rfl; assumption)
        | (apply st_f; exact rfl; assumption)
        | (apply st_some; exact rfl)
        | refine st_ift ?_
        | refine st_iff ?_
        | exact rfl
    · have e : xs ++ [D.lst (mk m y.length)] ++ ys.map D.lst = xs ++ .lst (mk m y.length) :: ys.map D.lst := by simp
      rw [e] at h1
      refine h1.trans ?_
      simp [mks, tot]
      omega
set_option maxHeartbeats 4000000 in
theorem run103 {G : Told} (g102 : G 102 = F102) : ∀ ds rs, F103 ds = some rs → ∃ fuel, run G fuel T103 ds = some (0, rs) := by
  intro ds rs h
  unfold F103 at h
  split at h
  · rename_i a m
    split at h
    · rename_i hc
      obtain ⟨hl, hm, hb, hn⟩ := hc
      simp only [Option.some.injEq] at h
      subst h
      obtain ⟨ds, h1, h2⟩ := loop103 g102 (a.map unL) [] m hm hb (by simp; omega)
      rw [List.nil_append, unL_map hl] at h1
      refine ⟨(a.map unL).length + 1, ?_⟩
      rw [eq103]
      unfold S103
      refine st_join h1 (by simp [h2]) ?_
      rfl
    · cases h
  · cases h

set_option maxHeartbeats 4000000 in
theorem loop105 {G : Told} (g104 : G 104 = F104) {l : D} : ∀ (ys : List (List D)) (xs : List D) (m : Int), l = .lst (xs ++ (mks m ys).map D.lst) → 0 ≤ m → m + tot ys < 4611686018427387904 → (xs.length : Int) + ys.length < 4611686018427387904 →
    ∃ ds, iter (tbody 2 (S105L0 G l)) (ys.length + 1) [.int m, .int xs.length] = some (0, .int (m + tot ys) :: ds) ∧ ds.length = 4 := by
  intro ys
  induction ys with
  | nil =>
    intro xs m hl _ _ _
    subst hl
    have h0 : decide ((xs.length : Int) < ((xs ++ (mks m []).map D.lst).length : Int)) = false := by simp [mks]
    refine ⟨[.int xs.length, .int xs.length, .int (xs ++ (mks m []).map D.lst).length, .bool false], iter_end (l := 0) (ds' := [.int m, .int xs.length, .int xs.length, .int (xs ++ (mks m []).map D.lst).length, .bool false]) ?_ (by simp [tot]), rfl⟩
    refine tb rfl ?_
    unfold S105L0
    repeat' first
      | (apply st_callt; assumption; exact rfl; exact rfl; assumption)
      | (apply st_callf; assumption; exact rfl; exact rfl; assumption)
      | (apply st_call; assumption; exact rfl; exact rfl; exact rfl)
      | (apply st_wide; exact rfl; exact rfl)
      | (apply st_skip; exact rfl)
      | (apply st_t; exact rfl; exact rfl)
      | (apply st_f; exact rfl; exact rfl)
      | (apply st_t; exact rfl; assumption)
      | (apply st_f; exact rfl; assumption)
      | (apply st_some; exact rfl)
      | refine st_ift ?_
      | refine st_iff ?_
      | exact rfl
  | cons y ys ih =>
    intro xs m hl hm hb hc
    simp only [List.length_cons, tot, Int.natCast_add] at hb hc
    have h0 : decide ((xs.length : Int) < ((xs ++ (mks m (y :: ys)).map D.lst).length : Int)) = true := by simp [mks]; omega
    have hx : gev none .idx [l, .int xs.length] = some (.lst (mk m y.length)) := by rw [hl]; exact idx_at rfl
    have hf : F104 [.lst (mk m y.length), .int m] = some [.int (m + y.length)] := by
      simp only [F104, mk_length]
      rw [if_pos ⟨trivial, hm, by omega⟩]
    have hneg : decide (m + (y.length : Int) < 0) = false := by simp; omega
    obtain ⟨ds, h1, h2⟩ := ih (xs ++ [.lst (mk m y.length)]) (m + y.length) (by rw [hl]; simp [mks]) (by omega) (by omega) (by simp; omega)
    refine ⟨ds, iter_go (ds' := [.int (m + y.length), .int ((xs ++ [D.lst (mk m y.length)]).length : Int)]) ?_ (h1.trans (by simp [tot]; omega)), h2⟩
    refine tb rfl ?_
    have hw := wrapU (i := xs.length) (by omega) (by omega)
    rw [show ((xs ++ [D.lst (mk m y.length)]).length : Int) = IntKind.wrap .i64 ((xs.length : Int) + 1) from by rw [hw]; simp]
    have hlen : gev none .len [l] = some (.int ((xs ++ (mks m (y :: ys)).map D.lst).length : Int)) := by rw [hl]; rfl
    clear hl
    unfold S105L0
    repeat' first
      | (apply st_some; exact hx)
      | (apply st_some; exact hlen)
      | (apply st_call; exact g104; exact rfl; exact hf; exact rfl)
      | (apply st_callt; assumption; exact rfl; exact rfl; assumption)
      | (apply st_callf; assumption; exact rfl; exact rfl; assumption)
      | (apply st_call; assumption; exact rfl; exact rfl; exact rfl)
      | (apply st_wide; exact rfl; exact rfl)
      | (apply st_skip; exact rfl)
      | (apply st_t; exact rfl; exact rfl)
      | (apply st_f; exact rfl; exact rfl)
      | (apply st_t; exact rfl; assumption)
      | (apply st_f; exact rfl; assumption)
      | (apply st_some; exact rfl)
      | refine st_ift ?_
      | refine st_iff ?_
      | exact rfl
set_option maxHeartbeats 4000000 in
theorem run105 {G : Told} (g104 : G 104 = F104) : ∀ ds rs, F105 ds = some rs → ∃ fuel, run G fuel T105 ds = some (0, rs) := by
  intro ds rs h
  unfold F105 at h
  split at h
  · rename_i a m
    split at h
    · rename_i hc
      obtain ⟨hl, hk, hm, hb, hn⟩ := hc
      simp only [Option.some.injEq] at h
      subst h
      obtain ⟨ds, h1, h2⟩ := loop105 g104 (l := .lst a) (a.map unL) [] m (by rw [List.nil_append, ← hk, unL_map hl]) hm hb (by simp; omega)
      refine ⟨(a.map unL).length + 1, ?_⟩
      rw [eq105]
      unfold S105
      refine st_join h1 (by simp [h2]) ?_
      rfl
    · cases h
  · cases h

end Vs

