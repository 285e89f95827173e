/-
  Laws of the plain functions of films: what the functions compute, and that the texts of the executor compute it.
-/
import Derived.Test.YtfpmhmngebnphaaK0
import Derived.Test.YtfpmhmngebnphaaNs19
namespace Vs
open Go

def sgB : Sig := ⟨[pv f1], [rv .bool]⟩
def sgF : Sig := ⟨[pv f1], [rv f1]⟩
def sgFB : Sig := ⟨[pv f1], [rv f1, rv .bool]⟩
def sg2FB : Sig := ⟨[pv f1, pv f1], [rv f1, rv .bool]⟩
def sgSame : Sig := ⟨[pv f8, pv f8], [rv .bool]⟩
def sg2B : Sig := ⟨[pv f1, pv f1], [rv .bool]⟩

/-! ### What they compute -/
def finP (x : Nat) : Bool := feq .f32 (fsub .f32 x x) 0
def overP (x : Nat) : Bool := finP x && fgt .f32 x 0
def sameP (x y : Nat) : Bool :=
  if !feq .f64 x x || !feq .f64 y y then !feq .f64 x x && !feq .f64 y y
  else if feq .f64 x 0 && feq .f64 y 0 then (fgt .f64 (fdiv .f64 4607182418800017408 x) 0 == fgt .f64 (fdiv .f64 4607182418800017408 y) 0)
  else feq .f64 x y
theorem sameP_self (x : Nat) : sameP x x = true := by
  unfold sameP
  cases h : feq .f64 x x <;> simp

def F1 : List D → Option (List D) | [.flt x] => some [.bool (finP x)] | _ => none
def F2 : List D → Option (List D) | [.flt x] => some [.bool (overP x)] | _ => none
def F3 : List D → Option (List D) | [.flt x] => some (if overP x then [.flt (fmul .f32 1068083597 x), .bool true] else [.flt 0, .bool false]) | _ => none
def F4 : List D → Option (List D) | [.flt x, .flt y] => some [.bool (sameP x y)] | _ => none
def F5 : List D → Option (List D) | [.flt x, .flt y] => some (if finP x && overP y then [.flt (fdiv .f32 (fmul .f32 1082130432 x) y), .bool true] else [.flt 0, .bool false]) | _ => none
def F6 : List D → Option (List D) | [.flt x] => some [.flt (fmul .f32 (fmul .f32 1086918619 x) x)] | _ => none
def F7 : List D → Option (List D) | [.flt x] => some (if overP x then [.flt (fmul .f32 (fmul .f32 1086918619 x) x), .bool true] else [.flt 0, .bool false]) | _ => none
def wallP (x y : Nat) : Nat :=
  let d := fsub .f32 x y
  if Vs.flt .f32 d 0 then fdiv .f32 (fmul .f32 x y) (fneg .f32 d) else fdiv .f32 (fmul .f32 x y) d
def F8 : List D → Option (List D) | [.flt x, .flt y] => some (if overP x && overP y && !feq .f32 x y then [.flt (wallP x y), .bool true] else [.flt 0, .bool false]) | _ => none
/-- What the laws answer: 'true', of one number and of two. -/
def F20 : List D → Option (List D) | [.flt _] => some [.bool true] | _ => none
def F21 : List D → Option (List D) | [.flt _, .flt _] => some [.bool true] | _ => none

/-! ### The texts -/
def T1 : T :=
(.op none (.far .sub .f32) [(.v 0), (.v 0)] <|
(.op none (.fcm .eql .f32) [(.v 1), (.c (.flt 0))] <|
(.out 0 [(.v 2)])))
def T2 : T :=
(.call none 1 [(.v 0)] 1 <|
(.op (some ((.v 1), true)) .id [(.v 0)] <|
(.op (some ((.v 1), true)) (.fcm .gtr .f32) [(.v 2), (.c (.flt 0))] <|
(.op none .pick [(.v 1), (.v 3), (.c (.bool false))] <|
(.out 0 [(.v 4)])))))
def T3 : T :=
(.call none 2 [(.v 0)] 1 <|
(.op none .bnot [(.v 1)] <|
(.ite (.v 2)
  (.out 0 [(.c (.flt 0)), (.c (.bool false))])
  (.op none (.far .mul .f32) [(.c (.flt 1068083597)), (.v 0)] <|
  (.out 0 [(.v 3), (.c (.bool true))])))))
def T4 : T :=
(.op none (.fcm .neq .f64) [(.v 0), (.v 0)] <|
(.op (some ((.v 2), false)) .id [(.v 1)] <|
(.op (some ((.v 2), false)) .id [(.v 1)] <|
(.op (some ((.v 2), false)) (.fcm .neq .f64) [(.v 3), (.v 4)] <|
(.op none .pick [(.v 2), (.c (.bool true)), (.v 5)] <|
(.ite (.v 6)
  (.op none (.fcm .neq .f64) [(.v 0), (.v 0)] <|
  (.op (some ((.v 7), true)) .id [(.v 1)] <|
  (.op (some ((.v 7), true)) .id [(.v 1)] <|
  (.op (some ((.v 7), true)) (.fcm .neq .f64) [(.v 8), (.v 9)] <|
  (.op none .pick [(.v 7), (.v 10), (.c (.bool false))] <|
  (.out 0 [(.v 11)]))))))
  (.op none (.fcm .eql .f64) [(.v 0), (.c (.flt 0))] <|
  (.op (some ((.v 7), true)) .id [(.v 1)] <|
  (.op (some ((.v 7), true)) (.fcm .eql .f64) [(.v 8), (.c (.flt 0))] <|
  (.op none .pick [(.v 7), (.v 9), (.c (.bool false))] <|
  (.ite (.v 10)
    (.op none (.far .quo .f64) [(.c (.flt 4607182418800017408)), (.v 0)] <|
    (.op none (.fcm .gtr .f64) [(.v 11), (.c (.flt 0))] <|
    (.op none (.far .quo .f64) [(.c (.flt 4607182418800017408)), (.v 1)] <|
    (.op none (.fcm .gtr .f64) [(.v 13), (.c (.flt 0))] <|
    (.op none .beq [(.v 12), (.v 14)] <|
    (.out 0 [(.v 15)]))))))
    (.op none (.fcm .eql .f64) [(.v 0), (.v 1)] <|
    (.out 0 [(.v 11)])))))))))))))

theorem run1 {G : Told} : ∀ ds rs, F1 ds = some rs → ∃ fuel, run G fuel T1 ds = some (0, rs) := by
  intro ds rs h
  simp only [F1] at h
  split at h <;> simp only [Option.some.injEq, reduceCtorEq] at h
  subst h
  exact ⟨0, by simp [T1, run, Guard.ok, evs, Atom.ev, Prim.ev, farith, fcmp, finP]⟩

theorem run2 {G : Told} (g1 : G 1 = F1) : ∀ ds rs, F2 ds = some rs → ∃ fuel, run G fuel T2 ds = some (0, rs) := by
  intro ds rs h
  simp only [F2] at h
  split at h <;> simp only [Option.some.injEq, reduceCtorEq] at h
  subst h
  rename_i x
  refine ⟨0, ?_⟩
  cases h1 : finP x <;> simp [T2, run, Guard.ok, evs, Atom.ev, Prim.ev, fcmp, g1, F1, overP, h1]

theorem run3 {G : Told} (g2 : G 2 = F2) : ∀ ds rs, F3 ds = some rs → ∃ fuel, run G fuel T3 ds = some (0, rs) := by
  intro ds rs h
  simp only [F3] at h
  split at h <;> simp only [Option.some.injEq, reduceCtorEq] at h
  subst h
  rename_i x
  refine ⟨0, ?_⟩
  cases h1 : overP x <;> simp [T3, run, Guard.ok, evs, Atom.ev, Prim.ev, farith, g2, F2, h1]

theorem run4 {G : Told} : ∀ ds rs, F4 ds = some rs → ∃ fuel, run G fuel T4 ds = some (0, rs) := by
  intro ds rs h
  simp only [F4] at h
  split at h <;> simp only [Option.some.injEq, reduceCtorEq] at h
  subst h
  rename_i x y
  refine ⟨0, ?_⟩
  cases h1 : feq .f64 x x <;> cases h2 : feq .f64 y y <;> cases h3 : feq .f64 x 0 <;> cases h4 : feq .f64 y 0 <;>
    simp [T4, run, Guard.ok, evs, Atom.ev, Prim.ev, farith, fcmp, sameP, h1, h2, h3, h4]

def T5 : T :=
(.call none 1 [(.v 0)] 1 <|
(.op none .bnot [(.v 2)] <|
(.op (some ((.v 3), false)) .id [(.v 1)] <|
(.call (some ((.v 3), false)) 2 [(.v 4)] 1 <|
(.op (some ((.v 3), false)) .bnot [(.v 5)] <|
(.op none .pick [(.v 3), (.c (.bool true)), (.v 6)] <|
(.ite (.v 7)
  (.out 0 [(.c (.flt 0)), (.c (.bool false))])
  (.op none (.far .mul .f32) [(.c (.flt 1082130432)), (.v 0)] <|
  (.op none (.far .quo .f32) [(.v 8), (.v 1)] <|
  (.out 0 [(.v 9), (.c (.bool true))]))))))))))
def T6 : T :=
(.op none (.far .mul .f32) [(.c (.flt 1086918619)), (.v 0)] <|
(.op none (.far .mul .f32) [(.v 1), (.v 0)] <|
(.out 0 [(.v 2)])))
def T7 : T :=
(.call none 2 [(.v 0)] 1 <|
(.op none .bnot [(.v 1)] <|
(.ite (.v 2)
  (.out 0 [(.c (.flt 0)), (.c (.bool false))])
  (.call none 6 [(.v 0)] 1 <|
  (.out 0 [(.v 3), (.c (.bool true))])))))
def T7' : T :=
(.call none 2 [(.v 0)] 1 <|
(.op none .bnot [(.v 1)] <|
(.ite (.v 2)
  (.out 0 [(.c (.flt 0)), (.c (.bool false))])
  (.op none (.far .mul .f32) [(.c (.flt 1073741824)), (.c (.flt 1078530011))] <|
  (.op none (.far .mul .f32) [(.v 3), (.v 0)] <|
  (.op none (.far .mul .f32) [(.v 4), (.v 0)] <|
  (.out 0 [(.v 5), (.c (.bool true))])))))))
def T8 : T :=
(.call none 2 [(.v 0)] 1 <|
(.op none .bnot [(.v 2)] <|
(.op (some ((.v 3), false)) .id [(.v 1)] <|
(.call (some ((.v 3), false)) 2 [(.v 4)] 1 <|
(.op (some ((.v 3), false)) .bnot [(.v 5)] <|
(.op none .pick [(.v 3), (.c (.bool true)), (.v 6)] <|
(.op (some ((.v 7), false)) .id [(.v 0)] <|
(.op (some ((.v 7), false)) .id [(.v 1)] <|
(.op (some ((.v 7), false)) (.fcm .eql .f32) [(.v 8), (.v 9)] <|
(.op none .pick [(.v 7), (.c (.bool true)), (.v 10)] <|
(.ite (.v 11)
  (.out 0 [(.c (.flt 0)), (.c (.bool false))])
  (.op none (.far .sub .f32) [(.v 0), (.v 1)] <|
  (.op none (.fcm .lss .f32) [(.v 12), (.c (.flt 0))] <|
  (.ite (.v 13)
    (.op none (.fneg .f32) [(.v 12)] <|
    (.op none (.far .mul .f32) [(.v 0), (.v 1)] <|
    (.op none (.far .quo .f32) [(.v 15), (.v 14)] <|
    (.out 0 [(.v 16), (.c (.bool true))]))))
    (.op none (.far .mul .f32) [(.v 0), (.v 1)] <|
    (.op none (.far .quo .f32) [(.v 14), (.v 12)] <|
    (.out 0 [(.v 15), (.c (.bool true))])))))))))))))))))

theorem run5 {G : Told} (g1 : G 1 = F1) (g2 : G 2 = F2) : ∀ ds rs, F5 ds = some rs → ∃ fuel, run G fuel T5 ds = some (0, rs) := by
  intro ds rs h
  simp only [F5] at h
  split at h <;> simp only [Option.some.injEq, reduceCtorEq] at h
  subst h
  rename_i x y
  refine ⟨0, ?_⟩
  cases h1 : finP x <;> cases h2 : overP y <;> simp [T5, run, Guard.ok, evs, Atom.ev, Prim.ev, farith, g1, g2, F1, F2, h1, h2]

theorem run6 {G : Told} : ∀ ds rs, F6 ds = some rs → ∃ fuel, run G fuel T6 ds = some (0, rs) := by
  intro ds rs h
  simp only [F6] at h
  split at h <;> simp only [Option.some.injEq, reduceCtorEq] at h
  subst h
  exact ⟨0, by simp [T6, run, Guard.ok, evs, Atom.ev, Prim.ev, farith]⟩

theorem two_pi : fmul .f32 1073741824 1078530011 = 1086918619 := by decide +kernel

theorem run7 {G : Told} (g2 : G 2 = F2) (g6 : G 6 = F6) : ∀ ds rs, F7 ds = some rs → ∃ fuel, run G fuel T7 ds = some (0, rs) := by
  intro ds rs h
  simp only [F7] at h
  split at h <;> simp only [Option.some.injEq, reduceCtorEq] at h
  subst h
  rename_i x
  refine ⟨0, ?_⟩
  cases h1 : overP x <;> simp [T7, run, Guard.ok, evs, Atom.ev, Prim.ev, g2, g6, F2, F6, h1]
theorem run7' {G : Told} (g2 : G 2 = F2) : ∀ ds rs, F7 ds = some rs → ∃ fuel, run G fuel T7' ds = some (0, rs) := by
  intro ds rs h
  simp only [F7] at h
  split at h <;> simp only [Option.some.injEq, reduceCtorEq] at h
  subst h
  rename_i x
  refine ⟨0, ?_⟩
  cases h1 : overP x <;> simp [T7', run, Guard.ok, evs, Atom.ev, Prim.ev, farith, g2, F2, h1, two_pi]

theorem run8 {G : Told} (g2 : G 2 = F2) : ∀ ds rs, F8 ds = some rs → ∃ fuel, run G fuel T8 ds = some (0, rs) := by
  intro ds rs h
  simp only [F8] at h
  split at h <;> simp only [Option.some.injEq, reduceCtorEq] at h
  subst h
  rename_i x y
  refine ⟨0, ?_⟩
  cases h1 : overP x <;> cases h2 : overP y <;> cases h3 : feq .f32 x y <;> cases h4 : Vs.flt .f32 (fsub .f32 x y) 0 <;>
    simp [T8, run, Guard.ok, evs, Atom.ev, Prim.ev, farith, fcmp, g2, F2, wallP, h1, h2, h3, h4]

/-! ### The laws' own texts -/
def TL1 (k : Nat) : T :=
(.call none k [(.v 0)] 2 <|
(.call none k [(.v 0)] 2 <|
(.op none (.f2f .f32 .f64) [(.v 3)] <|
(.op none (.f2f .f32 .f64) [(.v 1)] <|
(.call none 4 [(.v 5), (.v 6)] 1 <|
(.op none .bnot [(.v 7)] <|
(.op (some ((.v 8), false)) .id [(.v 4)] <|
(.op (some ((.v 8), false)) .id [(.v 2)] <|
(.op (some ((.v 8), false)) .bne [(.v 9), (.v 10)] <|
(.op none .pick [(.v 8), (.c (.bool true)), (.v 11)] <|
(.ite (.v 12)
  (.out 0 [(.c (.bool false))])
  (.out 0 [(.c (.bool true))]))))))))))))
def TL2 (k : Nat) : T :=
(.call none k [(.v 0), (.v 1)] 2 <|
(.call none k [(.v 0), (.v 1)] 2 <|
(.op none (.f2f .f32 .f64) [(.v 4)] <|
(.op none (.f2f .f32 .f64) [(.v 2)] <|
(.call none 4 [(.v 6), (.v 7)] 1 <|
(.op none .bnot [(.v 8)] <|
(.op (some ((.v 9), false)) .id [(.v 5)] <|
(.op (some ((.v 9), false)) .id [(.v 3)] <|
(.op (some ((.v 9), false)) .bne [(.v 10), (.v 11)] <|
(.op none .pick [(.v 9), (.c (.bool true)), (.v 12)] <|
(.ite (.v 13)
  (.out 0 [(.c (.bool false))])
  (.out 0 [(.c (.bool true))]))))))))))))

theorem runL1 {G : Told} (g4 : G 4 = F4) (k : Nat) (hk : ∀ x, ∃ a b, G k [.flt x] = some [.flt a, .bool b]) : ∀ ds rs, F20 ds = some rs → ∃ fuel, run G fuel (TL1 k) ds = some (0, rs) := by
  intro ds rs h
  simp only [F20] at h
  split at h <;> simp only [Option.some.injEq, reduceCtorEq] at h
  subst h
  rename_i x
  obtain ⟨a, b, hab⟩ := hk x
  have h4 : G 4 [.flt (wide a), .flt (wide a)] = some [.bool true] := by simp [g4, F4, sameP_self]
  exact ⟨0, by simp [TL1, run, Guard.ok, evs, Atom.ev, Prim.ev, hab, f2f_wide, h4]⟩
theorem runL2 {G : Told} (g4 : G 4 = F4) (k : Nat) (hk : ∀ x y, ∃ a b, G k [.flt x, .flt y] = some [.flt a, .bool b]) : ∀ ds rs, F21 ds = some rs → ∃ fuel, run G fuel (TL2 k) ds = some (0, rs) := by
  intro ds rs h
  simp only [F21] at h
  split at h <;> simp only [Option.some.injEq, reduceCtorEq] at h
  subst h
  rename_i x y
  obtain ⟨a, b, hab⟩ := hk x y
  have h4 : G 4 [.flt (wide a), .flt (wide a)] = some [.bool true] := by simp [g4, F4, sameP_self]
  exact ⟨0, by simp [TL2, run, Guard.ok, evs, Atom.ev, Prim.ev, hab, f2f_wide, h4]⟩

theorem two3 (x : Nat) : ∃ a b, F3 [.flt x] = some [.flt a, .bool b] := by
  simp only [F3]
  split <;> exact ⟨_, _, rfl⟩
theorem two7 (x : Nat) : ∃ a b, F7 [.flt x] = some [.flt a, .bool b] := by
  simp only [F7]
  split <;> exact ⟨_, _, rfl⟩
theorem two5 (x y : Nat) : ∃ a b, F5 [.flt x, .flt y] = some [.flt a, .bool b] := by
  simp only [F5]
  split <;> exact ⟨_, _, rfl⟩
theorem two8 (x y : Nat) : ∃ a b, F8 [.flt x, .flt y] = some [.flt a, .bool b] := by
  simp only [F8]
  split <;> exact ⟨_, _, rfl⟩

end Vs
