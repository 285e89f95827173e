/-
  The law of the point at which paths meet: its answer is yes.
-/
import Derived.Test.YtfpmhmngebnphaaM4
namespace Vs
open Go

def sgEqV : Sig := ⟨[pV, pV], [rv .bool]⟩
def sgMPl : Sig := ⟨[pV, pV, pV, pv i8], [rv .bool]⟩
def sameW (x y : Nat) : Bool := sameP (wide x) (wide y)
def eqV (a b : V3) : Bool := sameW a.x b.x && sameW a.y b.y && sameW a.z b.z
theorem eqV_self (a : V3) : eqV a a = true := by simp [eqV, sameW, sameP_self]
def F40 : List D → Option (List D) | [.flt a, .flt b, .flt c, .flt x, .flt y, .flt z] => some [.bool (eqV ⟨a, b, c⟩ ⟨x, y, z⟩)] | _ => none
def F41 : List D → Option (List D) | [.flt _, .flt _, .flt _, .flt _, .flt _, .flt _, .flt _, .flt _, .flt _, .int _] => some [.bool true] | _ => none

def T40 : T :=
(.op none (.f2f .f32 .f64) [(.v 0)] <|
(.op none (.f2f .f32 .f64) [(.v 3)] <|
(.call none 4 [(.v 6), (.v 7)] 1 <|
(.op none .bnot [(.v 8)] <|
(.ite (.v 9)
  (.out 0 [(.c (.bool false))])
  (.op none (.f2f .f32 .f64) [(.v 1)] <|
  (.op none (.f2f .f32 .f64) [(.v 4)] <|
  (.call none 4 [(.v 10), (.v 11)] 1 <|
  (.op none .bnot [(.v 12)] <|
  (.ite (.v 13)
    (.out 0 [(.c (.bool false))])
    (.op none (.f2f .f32 .f64) [(.v 2)] <|
    (.op none (.f2f .f32 .f64) [(.v 5)] <|
    (.call none 4 [(.v 14), (.v 15)] 1 <|
    (.op none .bnot [(.v 16)] <|
    (.ite (.v 17)
      (.out 0 [(.c (.bool false))])
      (.out 0 [(.c (.bool true))]))))))))))))))))
def S40 (G : Told) (_fuel : Nat) (x0 x1 x2 x3 x4 x5 : D) : Option (Nat × List D) :=
  (gev none (.f2f .f32 .f64) [x0]).bind fun x6 =>
  (gev none (.f2f .f32 .f64) [x3]).bind fun x7 =>
  (gcall G none 4 [x6, x7] 1).bind fun e8 =>
  (gev none .bnot [(e8.getD 0 .undef)]).bind fun x9 =>
  tif x9 (
    some (0, [(.bool false)])) (
    (gev none (.f2f .f32 .f64) [x1]).bind fun x10 =>
    (gev none (.f2f .f32 .f64) [x4]).bind fun x11 =>
    (gcall G none 4 [x10, x11] 1).bind fun e12 =>
    (gev none .bnot [(e12.getD 0 .undef)]).bind fun x13 =>
    tif x13 (
      some (0, [(.bool false)])) (
      (gev none (.f2f .f32 .f64) [x2]).bind fun x14 =>
      (gev none (.f2f .f32 .f64) [x5]).bind fun x15 =>
      (gcall G none 4 [x14, x15] 1).bind fun e16 =>
      (gev none .bnot [(e16.getD 0 .undef)]).bind fun x17 =>
      tif x17 (
        some (0, [(.bool false)])) (
        some (0, [(.bool true)]))))
theorem eq40 {G : Told} {fuel : Nat} (x0 x1 x2 x3 x4 x5 : D) : run G fuel T40 [x0, x1, x2, x3, x4, x5] = S40 G fuel x0 x1 x2 x3 x4 x5 := by
  rw [run_eq]; kernel_rfl

def T41 : T :=
(.call none 16 [(.v 0), (.v 1), (.v 2)] 3 <|
(.call none 16 [(.v 3), (.v 4), (.v 5)] 3 <|
(.call none 16 [(.v 6), (.v 7), (.v 8)] 3 <|
(.call none 32 [(.v 10), (.v 11), (.v 12), (.v 13), (.v 14), (.v 15), (.v 16), (.v 17), (.v 18), (.v 9)] 4 <|
(.call none 16 [(.v 0), (.v 1), (.v 2)] 3 <|
(.call none 16 [(.v 3), (.v 4), (.v 5)] 3 <|
(.call none 16 [(.v 6), (.v 7), (.v 8)] 3 <|
(.call none 32 [(.v 23), (.v 24), (.v 25), (.v 26), (.v 27), (.v 28), (.v 29), (.v 30), (.v 31), (.v 9)] 4 <|
(.call none 40 [(.v 32), (.v 33), (.v 34), (.v 19), (.v 20), (.v 21)] 1 <|
(.op none .bnot [(.v 36)] <|
(.op (some ((.v 37), false)) .id [(.v 35)] <|
(.op (some ((.v 37), false)) .id [(.v 22)] <|
(.op (some ((.v 37), false)) .bne [(.v 38), (.v 39)] <|
(.op none .pick [(.v 37), (.c (.bool true)), (.v 40)] <|
(.ite (.v 41)
  (.out 0 [(.c (.bool false))])
  (.out 0 [(.c (.bool true))]))))))))))))))))
def S41 (G : Told) (_fuel : Nat) (x0 x1 x2 x3 x4 x5 x6 x7 x8 x9 : D) : Option (Nat × List D) :=
  (gcall G none 16 [x0, x1, x2] 3).bind fun e10 =>
  (gcall G none 16 [x3, x4, x5] 3).bind fun e13 =>
  (gcall G none 16 [x6, x7, x8] 3).bind fun e16 =>
  (gcall G none 32 [(e10.getD 0 .undef), (e10.getD 1 .undef), (e10.getD 2 .undef), (e13.getD 0 .undef), (e13.getD 1 .undef), (e13.getD 2 .undef), (e16.getD 0 .undef), (e16.getD 1 .undef), (e16.getD 2 .undef), x9] 4).bind fun e19 =>
  (gcall G none 16 [x0, x1, x2] 3).bind fun e23 =>
  (gcall G none 16 [x3, x4, x5] 3).bind fun e26 =>
  (gcall G none 16 [x6, x7, x8] 3).bind fun e29 =>
  (gcall G none 32 [(e23.getD 0 .undef), (e23.getD 1 .undef), (e23.getD 2 .undef), (e26.getD 0 .undef), (e26.getD 1 .undef), (e26.getD 2 .undef), (e29.getD 0 .undef), (e29.getD 1 .undef), (e29.getD 2 .undef), x9] 4).bind fun e32 =>
  (gcall G none 40 [(e32.getD 0 .undef), (e32.getD 1 .undef), (e32.getD 2 .undef), (e19.getD 0 .undef), (e19.getD 1 .undef), (e19.getD 2 .undef)] 1).bind fun e36 =>
  (gev none .bnot [(e36.getD 0 .undef)]).bind fun x37 =>
  (gev (some (x37, false)) .id [(e32.getD 3 .undef)]).bind fun x38 =>
  (gev (some (x37, false)) .id [(e19.getD 3 .undef)]).bind fun x39 =>
  (gev (some (x37, false)) .bne [x38, x39]).bind fun x40 =>
  (gev none .pick [x37, (.bool true), x40]).bind fun x41 =>
  tif x41 (
    some (0, [(.bool false)])) (
    some (0, [(.bool true)]))
theorem eq41 {G : Told} {fuel : Nat} (x0 x1 x2 x3 x4 x5 x6 x7 x8 x9 : D) : run G fuel T41 [x0, x1, x2, x3, x4, x5, x6, x7, x8, x9] = S41 G fuel x0 x1 x2 x3 x4 x5 x6 x7 x8 x9 := by
  rw [run_eq]; kernel_rfl

attribute [local irreducible] sameP wide meetP
set_option maxHeartbeats 4000000 in
theorem run40 {G : Told} (g4 : G 4 = F4) : ∀ ds rs, F40 ds = some rs → ∃ fuel, run G fuel T40 ds = some (0, rs) := by
  intro ds rs h
  simp only [F40] at h
  split at h <;> simp only [Option.some.injEq, reduceCtorEq] at h
  subst h
  rename_i a b c x y z
  refine ⟨0, ?_⟩
  rw [eq40]
  unfold S40 eqV sameW
  cases h1 : sameP (wide a) (wide x)
  · repeat' first
      | (apply st_callt; assumption; exact rfl; exact rfl; assumption)
      | (apply st_callf; assumption; exact rfl; exact rfl; assumption)
      | (apply st_call; assumption; exact rfl; exact rfl; exact rfl)
      | (apply st_wide; exact rfl; exact rfl)
      | (apply st_skip; exact rfl)
      | (apply st_t; exact rfl; exact rfl)
      | (apply st_f; exact rfl; exact rfl)
      | (apply st_t; exact rfl; assumption)
      | (apply st_f; exact rfl; assumption)
      | (apply st_some; exact rfl)
      | refine st_ift ?_
      | refine st_iff ?_
      | exact rfl
  cases h2 : sameP (wide b) (wide y)
  · repeat' first
      | (apply st_callt; assumption; exact rfl; exact rfl; assumption)
      | (apply st_callf; assumption; exact rfl; exact rfl; assumption)
      | (apply st_call; assumption; exact rfl; exact rfl; exact rfl)
      | (apply st_wide; exact rfl; exact rfl)
      | (apply st_skip; exact rfl)
      | (apply st_t; exact rfl; exact rfl)
      | (apply st_f; exact rfl; exact rfl)
      | (apply st_t; exact rfl; assumption)
      | (apply st_f; exact rfl; assumption)
      | (apply st_some; exact rfl)
      | refine st_ift ?_
      | refine st_iff ?_
      | exact rfl
  cases h3 : sameP (wide c) (wide z)
  · repeat' first
      | (apply st_callt; assumption; exact rfl; exact rfl; assumption)
      | (apply st_callf; assumption; exact rfl; exact rfl; assumption)
      | (apply st_call; assumption; exact rfl; exact rfl; exact rfl)
      | (apply st_wide; exact rfl; exact rfl)
      | (apply st_skip; exact rfl)
      | (apply st_t; exact rfl; exact rfl)
      | (apply st_f; exact rfl; exact rfl)
      | (apply st_t; exact rfl; assumption)
      | (apply st_f; exact rfl; assumption)
      | (apply st_some; exact rfl)
      | refine st_ift ?_
      | refine st_iff ?_
      | exact rfl
  · repeat' first
      | (apply st_callt; assumption; exact rfl; exact rfl; assumption)
      | (apply st_callf; assumption; exact rfl; exact rfl; assumption)
      | (apply st_call; assumption; exact rfl; exact rfl; exact rfl)
      | (apply st_wide; exact rfl; exact rfl)
      | (apply st_skip; exact rfl)
      | (apply st_t; exact rfl; exact rfl)
      | (apply st_f; exact rfl; exact rfl)
      | (apply st_t; exact rfl; assumption)
      | (apply st_f; exact rfl; assumption)
      | (apply st_some; exact rfl)
      | refine st_ift ?_
      | refine st_iff ?_
      | exact rfl
set_option maxHeartbeats 4000000 in
theorem run41 {G : Told} (g16 : G 16 = F16) (g32 : G 32 = F32) (g40 : G 40 = F40) : ∀ ds rs, F41 ds = some rs → ∃ fuel, run G fuel T41 ds = some (0, rs) := by
  intro ds rs h
  simp only [F41] at h
  split at h <;> simp only [Option.some.injEq, reduceCtorEq] at h
  subst h
  rename_i a b c d e f x y z n
  refine ⟨0, ?_⟩
  rw [eq41]
  unfold S41
  have h32 : ∃ (p : V3) (w : Bool), F32 [.flt a, .flt b, .flt c, .flt d, .flt e, .flt f, .flt x, .flt y, .flt z, .int n] = some [.flt p.x, .flt p.y, .flt p.z, .bool w] := by
    simp only [F32]
    cases meetP ⟨a, b, c⟩ ⟨d, e, f⟩ ⟨x, y, z⟩ n with
    | none => exact ⟨⟨0, 0, 0⟩, false, rfl⟩
    | some p => exact ⟨p, true, rfl⟩
  obtain ⟨p, w, h32⟩ := h32
  have hv : eqV ⟨p.x, p.y, p.z⟩ ⟨p.x, p.y, p.z⟩ = true := eqV_self _
  cases w <;> (
    repeat' first
      | (apply st_call; assumption; exact rfl; exact h32; exact rfl)
      | (apply st_callt; assumption; exact rfl; exact rfl; assumption)
      | (apply st_callf; assumption; exact rfl; exact rfl; assumption)
      | (apply st_call; assumption; exact rfl; exact rfl; exact rfl)
      | (apply st_wide; exact rfl; exact rfl)
      | (apply st_skip; exact rfl)
      | (apply st_t; exact rfl; exact rfl)
      | (apply st_f; exact rfl; exact rfl)
      | (apply st_t; exact rfl; assumption)
      | (apply st_f; exact rfl; assumption)
      | (apply st_some; exact rfl)
      | refine st_ift ?_
      | refine st_iff ?_
      | exact rfl)

end Vs
