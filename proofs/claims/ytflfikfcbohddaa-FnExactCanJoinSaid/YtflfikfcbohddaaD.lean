/-
  Laws of the plain functions of films: what the functions compute, and that the texts of the executor compute it.
-/
import Derived.Test.YtflfikfcbohddaaE
namespace Vs
open Go

/-! ### What they compute -/
def sameP (x y : Nat) : Bool :=
  if !feq .f64 x x || !feq .f64 y y then !feq .f64 x x && !feq .f64 y y
  else if feq .f64 x 0 && feq .f64 y 0 then (fgt .f64 (fdiv .f64 4607182418800017408 x) 0 == fgt .f64 (fdiv .f64 4607182418800017408 y) 0)
  else feq .f64 x y
theorem sameP_self (x : Nat) : sameP x x = true := by
  unfold sameP
  cases h : feq .f64 x x <;> simp

def F4 : List D → Option (List D) | [.flt x, .flt y] => some [.bool (sameP x y)] | _ => none
/-! ### The texts -/
def T4 : T :=
(.op none (.fcm .neq .f64) [(.v 0), (.v 0)] <|
(.op (some ((.v 2), false)) .id [(.v 1)] <|
(.op (some ((.v 2), false)) .id [(.v 1)] <|
(.op (some ((.v 2), false)) (.fcm .neq .f64) [(.v 3), (.v 4)] <|
(.op none .pick [(.v 2), (.c (.bool true)), (.v 5)] <|
(.ite (.v 6)
  (.op none (.fcm .neq .f64) [(.v 0), (.v 0)] <|
  (.op (some ((.v 7), true)) .id [(.v 1)] <|
  (.op (some ((.v 7), true)) .id [(.v 1)] <|
  (.op (some ((.v 7), true)) (.fcm .neq .f64) [(.v 8), (.v 9)] <|
  (.op none .pick [(.v 7), (.v 10), (.c (.bool false))] <|
  (.out 0 [(.v 11)]))))))
  (.op none (.fcm .eql .f64) [(.v 0), (.c (.flt 0))] <|
  (.op (some ((.v 7), true)) .id [(.v 1)] <|
  (.op (some ((.v 7), true)) (.fcm .eql .f64) [(.v 8), (.c (.flt 0))] <|
  (.op none .pick [(.v 7), (.v 9), (.c (.bool false))] <|
  (.ite (.v 10)
    (.op none (.far .quo .f64) [(.c (.flt 4607182418800017408)), (.v 0)] <|
    (.op none (.fcm .gtr .f64) [(.v 11), (.c (.flt 0))] <|
    (.op none (.far .quo .f64) [(.c (.flt 4607182418800017408)), (.v 1)] <|
    (.op none (.fcm .gtr .f64) [(.v 13), (.c (.flt 0))] <|
    (.op none .beq [(.v 12), (.v 14)] <|
    (.out 0 [(.v 15)]))))))
    (.op none (.fcm .eql .f64) [(.v 0), (.v 1)] <|
    (.out 0 [(.v 11)])))))))))))))

theorem run4 {G : Told} : ∀ ds rs, F4 ds = some rs → ∃ fuel, run G fuel T4 ds = some (0, rs) := by
  intro ds rs h
  simp only [F4] at h
  split at h <;> simp only [Option.some.injEq, reduceCtorEq] at h
  subst h
  rename_i x y
  refine ⟨0, ?_⟩
  cases h1 : feq .f64 x x <;> cases h2 : feq .f64 y y <;> cases h3 : feq .f64 x 0 <;> cases h4 : feq .f64 y 0 <;>
    simp [T4, run, Guard.ok, evs, Atom.ev, Prim.ev, farith, fcmp, sameP, h1, h2, h3, h4]

/-! ### The laws' own texts -/
end Vs

namespace Vs
open Go

end Vs

namespace Vs
open Go

abbrev c1 : CT := .b f1
def F16 : List D → Option (List D) | [.flt a, .flt b, .flt c] => some [.flt a, .flt b, .flt c] | _ => none
def T16 : T := (.out 0 [(.v 0), (.v 1), (.v 2)])
theorem run16 {G : Told} : ∀ ds rs, F16 ds = some rs → ∃ fuel, run G fuel T16 ds = some (0, rs) := by
  intro ds rs h
  simp only [F16] at h
  split at h <;> simp only [Option.some.injEq, reduceCtorEq] at h
  subst h
  exact ⟨0, by simp [T16, run, evs, Atom.ev]⟩
end Vs

namespace Vs
open Go

end Vs

namespace Vs
open Go

structure V3 where
  x : Nat
  y : Nat
  z : Nat
def V3.add (a b : V3) : V3 := ⟨fadd .f32 a.x b.x, fadd .f32 a.y b.y, fadd .f32 a.z b.z⟩
def V3.ds (a : V3) : List D := [.flt a.x, .flt a.y, .flt a.z]
def F19 : List D → Option (List D) | [.int n, .int a, .int b] => some [.bool (decide (a ≤ n) && decide (n ≤ b))] | _ => none
def T19 : T :=
(.op none (.icm .geq) [(.v 0), (.v 1)] <|
(.op (some ((.v 3), true)) .id [(.v 0)] <|
(.op (some ((.v 3), true)) .id [(.v 2)] <|
(.op (some ((.v 3), true)) (.icm .leq) [(.v 4), (.v 5)] <|
(.op none .pick [(.v 3), (.v 6), (.c (.bool false))] <|
(.out 0 [(.v 7)]))))))
theorem run19 {G : Told} : ∀ ds rs, F19 ds = some rs → ∃ fuel, run G fuel T19 ds = some (0, rs) := by
  intro ds rs h
  simp only [F19] at h
  split at h <;> simp only [Option.some.injEq, reduceCtorEq] at h
  subst h
  rename_i n a b
  refine ⟨0, ?_⟩
  by_cases h1 : a ≤ n <;> simp [T19, run, Guard.ok, evs, Atom.ev, Prim.ev, icmp, h1]
attribute [local irreducible] fadd fsub fmul fdiv feq flt fle rootP

end Vs

namespace Vs
open Go

def sameW (x y : Nat) : Bool := sameP (wide x) (wide y)
def eqV (a b : V3) : Bool := sameW a.x b.x && sameW a.y b.y && sameW a.z b.z
theorem eqV_self (a : V3) : eqV a a = true := by simp [eqV, sameW, sameP_self]
def F40 : List D → Option (List D) | [.flt a, .flt b, .flt c, .flt x, .flt y, .flt z] => some [.bool (eqV ⟨a, b, c⟩ ⟨x, y, z⟩)] | _ => none
def T40 : T :=
(.op none (.f2f .f32 .f64) [(.v 0)] <|
(.op none (.f2f .f32 .f64) [(.v 3)] <|
(.call none 4 [(.v 6), (.v 7)] 1 <|
(.op none .bnot [(.v 8)] <|
(.ite (.v 9)
  (.out 0 [(.c (.bool false))])
  (.op none (.f2f .f32 .f64) [(.v 1)] <|
  (.op none (.f2f .f32 .f64) [(.v 4)] <|
  (.call none 4 [(.v 10), (.v 11)] 1 <|
  (.op none .bnot [(.v 12)] <|
  (.ite (.v 13)
    (.out 0 [(.c (.bool false))])
    (.op none (.f2f .f32 .f64) [(.v 2)] <|
    (.op none (.f2f .f32 .f64) [(.v 5)] <|
    (.call none 4 [(.v 14), (.v 15)] 1 <|
    (.op none .bnot [(.v 16)] <|
    (.ite (.v 17)
      (.out 0 [(.c (.bool false))])
      (.out 0 [(.c (.bool true))]))))))))))))))))
def S40 (G : Told) (_fuel : Nat) (x0 x1 x2 x3 x4 x5 : D) : Option (Nat × List D) :=
  (gev none (.f2f .f32 .f64) [x0]).bind fun x6 =>
  (gev none (.f2f .f32 .f64) [x3]).bind fun x7 =>
  (gcall G none 4 [x6, x7] 1).bind fun e8 =>
  (gev none .bnot [(e8.getD 0 .undef)]).bind fun x9 =>
  tif x9 (
    some (0, [(.bool false)])) (
    (gev none (.f2f .f32 .f64) [x1]).bind fun x10 =>
    (gev none (.f2f .f32 .f64) [x4]).bind fun x11 =>
    (gcall G none 4 [x10, x11] 1).bind fun e12 =>
    (gev none .bnot [(e12.getD 0 .undef)]).bind fun x13 =>
    tif x13 (
      some (0, [(.bool false)])) (
      (gev none (.f2f .f32 .f64) [x2]).bind fun x14 =>
      (gev none (.f2f .f32 .f64) [x5]).bind fun x15 =>
      (gcall G none 4 [x14, x15] 1).bind fun e16 =>
      (gev none .bnot [(e16.getD 0 .undef)]).bind fun x17 =>
      tif x17 (
        some (0, [(.bool false)])) (
        some (0, [(.bool true)]))))
theorem eq40 {G : Told} {fuel : Nat} (x0 x1 x2 x3 x4 x5 : D) : run G fuel T40 [x0, x1, x2, x3, x4, x5] = S40 G fuel x0 x1 x2 x3 x4 x5 := by
  rw [run_eq]; kernel_rfl

attribute [local irreducible] sameP wide

set_option maxHeartbeats 4000000 in
theorem run40 {G : Told} (g4 : G 4 = F4) : ∀ ds rs, F40 ds = some rs → ∃ fuel, run G fuel T40 ds = some (0, rs) := by
  intro ds rs h
  simp only [F40] at h
  split at h <;> simp only [Option.some.injEq, reduceCtorEq] at h
  subst h
  rename_i a b c x y z
  refine ⟨0, ?_⟩
  rw [eq40]
  unfold S40 eqV sameW
  cases h1 : sameP (wide a) (wide x)
  · repeat' first
      | (apply st_callt; assumption; exact rfl; exact rfl; assumption)
      | (apply st_callf; assumption; exact rfl; exact rfl; assumption)
      | (apply st_call; assumption; exact rfl; exact rfl; exact rfl)
      | (apply st_wide; exact rfl; exact rfl)
      | (apply st_skip; exact rfl)
      | (apply st_t; exact rfl; exact rfl)
      | (apply st_f; exact rfl; exact rfl)
      | (apply st_t; exact rfl; assumption)
      | (apply st_f; exact rfl; assumption)
      | (apply st_some; exact rfl)
      | refine st_ift ?_
      | refine st_iff ?_
      | exact rfl
  cases h2 : sameP (wide b) (wide y)
  · repeat' first
      | (apply st_callt; assumption; exact rfl; exact rfl; assumption)
      | (apply st_callf; assumption; exact rfl; exact rfl; assumption)
      | (apply st_call; assumption; exact rfl; exact rfl; exact rfl)
      | (apply st_wide; exact rfl; exact rfl)
      | (apply st_skip; exact rfl)
      | (apply st_t; exact rfl; exact rfl)
      | (apply st_f; exact rfl; exact rfl)
      | (apply st_t; exact rfl; assumption)
      | (apply st_f; exact rfl; assumption)
      | (apply st_some; exact rfl)
      | refine st_ift ?_
      | refine st_iff ?_
      | exact rfl
  cases h3 : sameP (wide c) (wide z)
  · repeat' first
      | (apply st_callt; assumption; exact rfl; exact rfl; assumption)
      | (apply st_callf; assumption; exact rfl; exact rfl; assumption)
      | (apply st_call; assumption; exact rfl; exact rfl; exact rfl)
      | (apply st_wide; exact rfl; exact rfl)
      | (apply st_skip; exact rfl)
      | (apply st_t; exact rfl; exact rfl)
      | (apply st_f; exact rfl; exact rfl)
      | (apply st_t; exact rfl; assumption)
      | (apply st_f; exact rfl; assumption)
      | (apply st_some; exact rfl)
      | refine st_ift ?_
      | refine st_iff ?_
      | exact rfl
  · repeat' first
      | (apply st_callt; assumption; exact rfl; exact rfl; assumption)
      | (apply st_callf; assumption; exact rfl; exact rfl; assumption)
      | (apply st_call; assumption; exact rfl; exact rfl; exact rfl)
      | (apply st_wide; exact rfl; exact rfl)
      | (apply st_skip; exact rfl)
      | (apply st_t; exact rfl; exact rfl)
      | (apply st_f; exact rfl; exact rfl)
      | (apply st_t; exact rfl; assumption)
      | (apply st_f; exact rfl; assumption)
      | (apply st_some; exact rfl)
      | refine st_ift ?_
      | refine st_iff ?_
      | exact rfl
end Vs

namespace Vs
open Go

theorem wrapU {i : Int} (h0 : 0 ≤ i) (h : i < 4611686018427387904) : IntKind.wrap .i64 (i + 1) = i + 1 := by
  simp only [IntKind.wrap, IntKind.bits, IntKind.signed]
  have : (i + 1) % 2 ^ 64 = i + 1 := Int.emod_eq_of_lt (by omega) (by omega)
  simp only [this]
  split
  · rename_i h
    simp at h
    omega
  · rfl
theorem tb {m : Nat} {k : List D → Option (Nat × List D)} {ds : List D} {X : Option (Nat × List D)} (h : ds.length = m) (hk : k ds = X) : tbody m k ds = X := by simp [tbody, h, hk]
theorem idx_at {xs ys : List D} {y : D} {n : Int} (h : n = xs.length) : gev none .idx [.lst (xs ++ y :: ys), .int n] = some y := by
  subst h
  have h2 : (xs.length : Int) < ((xs ++ y :: ys).length : Int) := by simp; omega
  simp only [gev, gok, if_true, Prim.ev]
  rw [if_pos ⟨by omega, h2⟩]
  simp
/-- Marks: whole numbers from m on. -/
def mk : Int → Nat → List D
  | _, 0 => []
  | m, n + 1 => .int m :: mk (m + 1) n
def mks : Int → List (List D) → List (List D)
  | _, [] => []
  | m, r :: rs => mk m r.length :: mks (m + r.length) rs
def isI : D → Bool | .int _ => true | _ => false
open Classical in
noncomputable def F100 : List D → Option (List D)
  | [.lst a, .lst b] => if a = b ∧ a.all isI = true ∧ (a.length : Int) < 4611686018427387904 then some [.bool true] else none
  | _ => none
open Classical in
noncomputable def F101 : List D → Option (List D)
  | [.lst a, .lst b] => if a = b ∧ (∀ x ∈ a, F100 [x, x] = some [.bool true]) ∧ (a.length : Int) < 4611686018427387904 then some [.bool true] else none
  | _ => none
def T100 : T :=
(.op none .len [(.v 0)] <|
(.op none .len [(.v 1)] <|
(.op none (.icm .neq) [(.v 2), (.v 3)] <|
(.ite (.v 4)
  (.out 0 [(.c (.bool false))])
  (.join 4
    (.loop [(.c (.int 0))]
      (.op none .len [(.v 0)] <|
      (.op none (.icm .lss) [(.v 5), (.v 6)] <|
      (.ite (.v 7)
        (.op none .idx [(.v 0), (.v 5)] <|
        (.op none .idx [(.v 1), (.v 5)] <|
        (.op none (.icm .neq) [(.v 8), (.v 9)] <|
        (.ite (.v 10)
          (.out 2 [(.c (.bool false))])
          (.op none (.iar .add .i64) [(.v 5), (.c (.int 1))] <|
          (.out 0 [(.v 11)]))))))
        (.out 1 [(.v 5), (.v 5), (.v 6), (.v 7)])))))
  (.out 0 [(.c (.bool true))]))))))
def S100L0 (_G : Told) (x0 : D) (x1 : D) : List D → Option (Nat × List D) := fun e5 =>
        (gev none .len [x0]).bind fun x6 =>
        (gev none (.icm .lss) [(e5.getD 0 .undef), x6]).bind fun x7 =>
        tif x7 (
          (gev none .idx [x0, (e5.getD 0 .undef)]).bind fun x8 =>
          (gev none .idx [x1, (e5.getD 0 .undef)]).bind fun x9 =>
          (gev none (.icm .neq) [x8, x9]).bind fun x10 =>
          tif x10 (
            some (2, [(.bool false)])) (
            (gev none (.iar .add .i64) [(e5.getD 0 .undef), (.int 1)]).bind fun x11 =>
            some (0, [x11]))) (
          some (1, [(e5.getD 0 .undef), (e5.getD 0 .undef), x6, x7]))
def S100 (G : Told) (fuel : Nat) (x0 x1 : D) : Option (Nat × List D) :=
  (gev none .len [x0]).bind fun x2 =>
  (gev none .len [x1]).bind fun x3 =>
  (gev none (.icm .neq) [x2, x3]).bind fun x4 =>
  tif x4 (
    some (0, [(.bool false)])) (
    tjoin 4 (
      iter (tbody 1 (S100L0 G x0 x1)) fuel [(.int 0)]) fun _e5 =>
    some (0, [(.bool true)]))
theorem eq100 {G : Told} {fuel : Nat} (x0 x1 : D) : run G fuel T100 [x0, x1] = S100 G fuel x0 x1 := by
  rw [run_eq]; kernel_rfl

def T101 : T :=
(.op none .len [(.v 0)] <|
(.op none .len [(.v 1)] <|
(.op none (.icm .neq) [(.v 2), (.v 3)] <|
(.ite (.v 4)
  (.out 0 [(.c (.bool false))])
  (.join 4
    (.loop [(.c (.int 0))]
      (.op none .len [(.v 0)] <|
      (.op none (.icm .lss) [(.v 5), (.v 6)] <|
      (.ite (.v 7)
        (.op none .idx [(.v 0), (.v 5)] <|
        (.op none .idx [(.v 1), (.v 5)] <|
        (.call none 100 [(.v 8), (.v 9)] 1 <|
        (.op none .bnot [(.v 10)] <|
        (.ite (.v 11)
          (.out 2 [(.c (.bool false))])
          (.op none (.iar .add .i64) [(.v 5), (.c (.int 1))] <|
          (.out 0 [(.v 12)])))))))
        (.out 1 [(.v 5), (.v 5), (.v 6), (.v 7)])))))
  (.out 0 [(.c (.bool true))]))))))
def S101L0 (G : Told) (x0 : D) (x1 : D) : List D → Option (Nat × List D) := fun e5 =>
        (gev none .len [x0]).bind fun x6 =>
        (gev none (.icm .lss) [(e5.getD 0 .undef), x6]).bind fun x7 =>
        tif x7 (
          (gev none .idx [x0, (e5.getD 0 .undef)]).bind fun x8 =>
          (gev none .idx [x1, (e5.getD 0 .undef)]).bind fun x9 =>
          (gcall G none 100 [x8, x9] 1).bind fun e10 =>
          (gev none .bnot [(e10.getD 0 .undef)]).bind fun x11 =>
          tif x11 (
            some (2, [(.bool false)])) (
            (gev none (.iar .add .i64) [(e5.getD 0 .undef), (.int 1)]).bind fun x12 =>
            some (0, [x12]))) (
          some (1, [(e5.getD 0 .undef), (e5.getD 0 .undef), x6, x7]))
def S101 (G : Told) (fuel : Nat) (x0 x1 : D) : Option (Nat × List D) :=
  (gev none .len [x0]).bind fun x2 =>
  (gev none .len [x1]).bind fun x3 =>
  (gev none (.icm .neq) [x2, x3]).bind fun x4 =>
  tif x4 (
    some (0, [(.bool false)])) (
    tjoin 4 (
      iter (tbody 1 (S101L0 G x0 x1)) fuel [(.int 0)]) fun _e5 =>
    some (0, [(.bool true)]))
theorem eq101 {G : Told} {fuel : Nat} (x0 x1 : D) : run G fuel T101 [x0, x1] = S101 G fuel x0 x1 := by
  rw [run_eq]; kernel_rfl

set_option maxHeartbeats 4000000 in
theorem loop100 {G : Told} {l : D} : ∀ (ys xs : List D), l = .lst (xs ++ ys) → ys.all isI = true → ((xs ++ ys).length : Int) < 4611686018427387904 →
    ∃ ds, iter (tbody 1 (S100L0 G l l)) (ys.length + 1) [.int xs.length] = some (0, ds) ∧ ds.length = 4 := by
  intro ys
  induction ys with
  | nil =>
    intro xs hl _ _
    subst hl
    have h0 : decide ((xs.length : Int) < ((xs ++ []).length : Int)) = false := by simp
    refine ⟨_, iter_end (l := 0) (ds' := [.int xs.length, .int xs.length, .int (xs ++ []).length, .bool false]) ?_ rfl, rfl⟩
    refine tb rfl ?_
    unfold S100L0
    repeat' first
      | (apply st_callt; assumption; exact rfl; exact rfl; assumption)
      | (apply st_callf; assumption; exact rfl; exact rfl; assumption)
      | (apply st_call; assumption; exact rfl; exact rfl; exact rfl)
      | (apply st_wide; exact rfl; exact rfl)
      | (apply st_skip; exact rfl)
      | (apply st_t; exact rfl; exact rfl)
      | (apply st_f; exact rfl; exact rfl)
      | (apply st_t; exact rfl; assumption)
      | (apply st_f; exact rfl; assumption)
      | (apply st_some; exact rfl)
      | refine st_ift ?_
      | refine st_iff ?_
      | exact rfl
  | cons y ys ih =>
    intro xs hl hi hb
    obtain ⟨n, rfl⟩ : ∃ n, y = .int n := by
      simp only [List.all_cons, Bool.and_eq_true] at hi
      cases y <;> first | exact ⟨_, rfl⟩ | simp [isI] at hi
    have h0 : decide ((xs.length : Int) < ((xs ++ .int n :: ys).length : Int)) = true := by simp; omega
    have hx : gev none .idx [l, .int xs.length] = some (.int n) := by rw [hl]; exact idx_at rfl
    have hn : (n != n) = false := by simp
    obtain ⟨ds, h1, h2⟩ := ih (xs ++ [.int n]) (by rw [hl]; simp) (by simp only [List.all_cons, Bool.and_eq_true] at hi; exact hi.2) (by simpa using hb)
    refine ⟨ds, iter_go (ds' := [.int ((xs ++ [D.int n]).length : Int)]) ?_ (by simpa using h1), h2⟩
    refine tb rfl ?_
    have hw := wrapU (i := xs.length) (by omega) (by simp at hb; omega)
    rw [show ((xs ++ [D.int n]).length : Int) = IntKind.wrap .i64 ((xs.length : Int) + 1) from by rw [hw]; simp]
    have hlen : gev none .len [l] = some (.int ((xs ++ .int n :: ys).length : Int)) := by rw [hl]; rfl
    clear hl
    unfold S100L0
    repeat' first
      | (apply st_some; exact hx)
      | (apply st_some; exact hlen)
      | (apply st_callt; assumption; exact rfl; exact rfl; assumption)
      | (apply st_callf; assumption; exact rfl; exact rfl; assumption)
      | (apply st_call; assumption; exact rfl; exact rfl; exact rfl)
      | (apply st_wide; exact rfl; exact rfl)
      | (apply st_skip; exact rfl)
      | (apply st_t; exact rfl; exact rfl)
      | (apply st_f; exact rfl; exact rfl)
      | (apply st_t; exact rfl; assumption)
      | (apply st_f; exact rfl; assumption)
      | (apply st_some; exact rfl)
      | refine st_ift ?_
      | refine st_iff ?_
      | exact rfl
set_option maxHeartbeats 4000000 in
theorem run100 {G : Told} : ∀ ds rs, F100 ds = some rs → ∃ fuel, run G fuel T100 ds = some (0, rs) := by
  intro ds rs h
  unfold F100 at h
  split at h
  · rename_i a b
    split at h
    · rename_i hc
      obtain ⟨rfl, hi, hb⟩ := hc
      simp only [Option.some.injEq] at h
      subst h
      obtain ⟨ds, h1, h2⟩ := loop100 (G := G) (l := .lst a) a [] rfl hi hb
      refine ⟨a.length + 1, ?_⟩
      rw [eq100]
      unfold S100
      have hn : ((a.length : Int) != (a.length : Int)) = false := by simp
      repeat' first
        | (apply st_join; exact h1; exact h2)
        | (apply st_callt; assumption; exact rfl; exact rfl; assumption)
        | (apply st_callf; assumption; exact rfl; exact rfl; assumption)
        | (apply st_call; assumption; exact rfl; exact rfl; exact rfl)
        | (apply st_wide; exact rfl; exact rfl)
        | (apply st_skip; exact rfl)
        | (apply st_t; exact rfl; exact rfl)
        | (apply st_f; exact rfl; exact rfl)
        | (apply st_t; exact rfl; assumption)
        | (apply st_f; exact rfl; assumption)
        | (apply st_some; exact rfl)
        | refine st_ift ?_
        | refine st_iff ?_
        | exact rfl
    · cases h
  · cases h

set_option maxHeartbeats 4000000 in
theorem loop101 {G : Told} (g100 : G 100 = F100) {l : D} : ∀ (ys xs : List D), l = .lst (xs ++ ys) → (∀ x ∈ ys, F100 [x, x] = some [.bool true]) → ((xs ++ ys).length : Int) < 4611686018427387904 →
    ∃ ds, iter (tbody 1 (S101L0 G l l)) (ys.length + 1) [.int xs.length] = some (0, ds) ∧ ds.length = 4 := by
  intro ys
  induction ys with
  | nil =>
    intro xs hl _ _
    subst hl
    have h0 : decide ((xs.length : Int) < ((xs ++ []).length : Int)) = false := by simp
    refine ⟨_, iter_end (l := 0) (ds' := [.int xs.length, .int xs.length, .int (xs ++ []).length, .bool false]) ?_ rfl, rfl⟩
    refine tb rfl ?_
    unfold S101L0
    repeat' first
      | (apply st_callt; assumption; exact rfl; exact rfl; assumption)
      | (apply st_callf; assumption; exact rfl; exact rfl; assumption)
      | (apply st_call; assumption; exact rfl; exact rfl; exact rfl)
      | (apply st_wide; exact rfl; exact rfl)
      | (apply st_skip; exact rfl)
      | (apply st_t; exact rfl; exact rfl)
      | (apply st_f; exact rfl; exact rfl)
      | (apply st_t; exact rfl; assumption)
      | (apply st_f; exact rfl; assumption)
      | (apply st_some; exact rfl)
      | refine st_ift ?_
      | refine st_iff ?_
      | exact rfl
  | cons y ys ih =>
    intro xs hl hi hb
    have h0 : decide ((xs.length : Int) < ((xs ++ y :: ys).length : Int)) = true := by simp; omega
    have hx : gev none .idx [l, .int xs.length] = some y := by rw [hl]; exact idx_at rfl
    have hf := hi y (by simp)
    obtain ⟨ds, h1, h2⟩ := ih (xs ++ [y]) (by rw [hl]; simp) (fun x hx => hi x (by simp [hx])) (by simpa using hb)
    refine ⟨ds, iter_go (ds' := [.int ((xs ++ [y]).length : Int)]) ?_ (by simpa using h1), h2⟩
    refine tb rfl ?_
    have hw := wrapU (i := xs.length) (by omega) (by simp at hb; omega)
    rw [show ((xs ++ [y]).length : Int) = IntKind.wrap .i64 ((xs.length : Int) + 1) from by rw [hw]; simp]
    have hlen : gev none .len [l] = some (.int ((xs ++ y :: ys).length : Int)) := by rw [hl]; rfl
    clear hl
    unfold S101L0
    repeat' first
      | (apply st_some; exact hx)
      | (apply st_some; exact hlen)
      | (apply st_call; exact g100; exact rfl; exact hf; exact rfl)
      | (apply st_callt; assumption; exact rfl; exact rfl; assumption)
      | (apply st_callf; assumption; exact rfl; exact rfl; assumption)
      | (apply st_call; assumption; exact rfl; exact rfl; exact rfl)
      | (apply st_wide; exact rfl; exact rfl)
      | (apply st_skip; exact rfl)
      | (apply st_t; exact rfl; exact rfl)
      | (apply st_f; exact rfl; exact rfl)
      | (apply st_t; exact rfl; assumption)
      | (apply st_f; exact rfl; assumption)
      | (apply st_some; exact rfl)
      | refine st_ift ?_
      | refine st_iff ?_
      | exact rfl
set_option maxHeartbeats 4000000 in
theorem run101 {G : Told} (g100 : G 100 = F100) : ∀ ds rs, F101 ds = some rs → ∃ fuel, run G fuel T101 ds = some (0, rs) := by
  intro ds rs h
  unfold F101 at h
  split at h
  · rename_i a b
    split at h
    · rename_i hc
      obtain ⟨rfl, hi, hb⟩ := hc
      simp only [Option.some.injEq] at h
      subst h
      obtain ⟨ds, h1, h2⟩ := loop101 g100 (l := .lst a) a [] rfl hi hb
      refine ⟨a.length + 1, ?_⟩
      rw [eq101]
      unfold S101
      have hn : ((a.length : Int) != (a.length : Int)) = false := by simp
      repeat' first
        | (apply st_join; exact h1; exact h2)
        | (apply st_callt; assumption; exact rfl; exact rfl; assumption)
        | (apply st_callf; assumption; exact rfl; exact rfl; assumption)
        | (apply st_call; assumption; exact rfl; exact rfl; exact rfl)
        | (apply st_wide; exact rfl; exact rfl)
        | (apply st_skip; exact rfl)
        | (apply st_t; exact rfl; exact rfl)
        | (apply st_f; exact rfl; exact rfl)
        | (apply st_t; exact rfl; assumption)
        | (apply st_f; exact rfl; assumption)
        | (apply st_some; exact rfl)
        | refine st_ift ?_
        | refine st_iff ?_
        | exact rfl
    · cases h
  · cases h

end Vs

