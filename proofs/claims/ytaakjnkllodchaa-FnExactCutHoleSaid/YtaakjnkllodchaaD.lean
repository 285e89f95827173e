/-
  Laws of the plain functions of films: what the functions compute, and that the texts of the executor compute it.
-/
import Derived.Test.YtaakjnkllodchaaE
namespace Vs
open Go
def finP (x : Nat) : Bool := feq .f32 (fsub .f32 x x) 0
def overP (x : Nat) : Bool := finP x && fgt .f32 x 0
def sameP (x y : Nat) : Bool :=
 if !feq .f64 x x || !feq .f64 y y then !feq .f64 x x && !feq .f64 y y
 else if feq .f64 x 0 && feq .f64 y 0 then (fgt .f64 (fdiv .f64 4607182418800017408 x) 0 == fgt .f64 (fdiv .f64 4607182418800017408 y) 0)
 else feq .f64 x y
theorem sameP_self (x : Nat) : sameP x x = true := by
 unfold sameP
 cases h : feq .f64 x x <;> simp
def F1 : List D → Option (List D) | [.flt x] => some [.bool (finP x)] | _ => none
def F2 : List D → Option (List D) | [.flt x] => some [.bool (overP x)] | _ => none
def F4 : List D → Option (List D) | [.flt x, .flt y] => some [.bool (sameP x y)] | _ => none
def T1 : T :=
(.op none (.far .sub .f32) [.v 0, .v 0] <|
.op none (.fcm .eql .f32) [.v 1, .c (.flt 0)] <|
.out 0 [.v 2])
def T4 : T :=
(.op none (.fcm .neq .f64) [.v 0, .v 0] <|
.op (some (.v 2, false)) .id [.v 1] <|
.op (some (.v 2, false)) .id [.v 1] <|
.op (some (.v 2, false)) (.fcm .neq .f64) [.v 3, .v 4] <|
.op none .pick [.v 2, .c (.bool true), .v 5] <|
.ite (.v 6)
 (.op none (.fcm .neq .f64) [.v 0, .v 0] <|
 .op (some (.v 7, true)) .id [.v 1] <|
 .op (some (.v 7, true)) .id [.v 1] <|
 .op (some (.v 7, true)) (.fcm .neq .f64) [.v 8, .v 9] <|
 .op none .pick [.v 7, .v 10, .c (.bool false)] <|
 .out 0 [.v 11])
 (.op none (.fcm .eql .f64) [.v 0, .c (.flt 0)] <|
 .op (some (.v 7, true)) .id [.v 1] <|
 .op (some (.v 7, true)) (.fcm .eql .f64) [.v 8, .c (.flt 0)] <|
 .op none .pick [.v 7, .v 9, .c (.bool false)] <|
 .ite (.v 10)
  (.op none (.far .quo .f64) [.c (.flt 4607182418800017408), .v 0] <|
  .op none (.fcm .gtr .f64) [.v 11, .c (.flt 0)] <|
  .op none (.far .quo .f64) [.c (.flt 4607182418800017408), .v 1] <|
  .op none (.fcm .gtr .f64) [.v 13, .c (.flt 0)] <|
  .op none .beq [.v 12, .v 14] <|
  .out 0 [.v 15])
  (.op none (.fcm .eql .f64) [.v 0, .v 1] <|
  .out 0 [.v 11])))
theorem run1 {G : Told} : Runs G F1 T1 := by
 intro ds rs h
 simp only [F1] at h
 split at h <;> simp only [Option.some.injEq, reduceCtorEq] at h
 subst h
 exact ⟨0, by simp [T1, run, Guard.ok, evs, Atom.ev, Prim.ev, farith, fcmp, finP]⟩
theorem run4 {G : Told} : Runs G F4 T4 := by
 intro ds rs h
 simp only [F4] at h
 split at h <;> simp only [Option.some.injEq, reduceCtorEq] at h
 subst h
 rename_i x y
 refine ⟨0, ?_⟩
 cases h1 : feq .f64 x x <;> cases h2 : feq .f64 y y <;> cases h3 : feq .f64 x 0 <;> cases h4 : feq .f64 y 0 <;>
  simp [T4, run, Guard.ok, evs, Atom.ev, Prim.ev, farith, fcmp, sameP, h1, h2, h3, h4]
end Vs

namespace Vs
open Go
end Vs

namespace Vs
open Go
abbrev c1 : CT := .b f1
def F16 : List D → Option (List D) | [.flt a, .flt b, .flt c] => some [.flt a, .flt b, .flt c] | _ => none
def T16 : T := (.out 0 [.v 0, .v 1, .v 2])
theorem run16 {G : Told} : Runs G F16 T16 := by
 intro ds rs h
 simp only [F16] at h
 split at h <;> simp only [Option.some.injEq, reduceCtorEq] at h
 subst h
 exact ⟨0, by simp [T16, run, evs, Atom.ev]⟩
end Vs

namespace Vs
open Go
end Vs

namespace Vs
open Go
structure V3 where
 x : Nat
 y : Nat
 z : Nat
def V3.add (a b : V3) : V3 := ⟨fadd .f32 a.x b.x, fadd .f32 a.y b.y, fadd .f32 a.z b.z⟩
def V3.fin (a : V3) : Bool := finP a.x && finP a.y && finP a.z
def V3.ds (a : V3) : List D := [.flt a.x, .flt a.y, .flt a.z]
def F19 : List D → Option (List D) | [.int n, .int a, .int b] => some [.bool (decide (a ≤ n) && decide (n ≤ b))] | _ => none
def T19 : T :=
(.op none (.icm .geq) [.v 0, .v 1] <|
.op (some (.v 3, true)) .id [.v 0] <|
.op (some (.v 3, true)) .id [.v 2] <|
.op (some (.v 3, true)) (.icm .leq) [.v 4, .v 5] <|
.op none .pick [.v 3, .v 6, .c (.bool false)] <|
.out 0 [.v 7])
theorem run19 {G : Told} : Runs G F19 T19 := by
 intro ds rs h
 simp only [F19] at h
 split at h <;> simp only [Option.some.injEq, reduceCtorEq] at h
 subst h
 rename_i n a b
 refine ⟨0, ?_⟩
 by_cases h1 : a ≤ n <;> simp [T19, run, Guard.ok, evs, Atom.ev, Prim.ev, icmp, h1]
attribute [local irreducible] fadd fsub fmul fdiv finP feq flt fle

end Vs

namespace Vs
open Go
def sameW (x y : Nat) : Bool := sameP (wide x) (wide y)
def eqV (a b : V3) : Bool := sameW a.x b.x && sameW a.y b.y && sameW a.z b.z
theorem eqV_self (a : V3) : eqV a a = true := by simp [eqV, sameW, sameP_self]
def F40 : List D → Option (List D) | [.flt a, .flt b, .flt c, .flt x, .flt y, .flt z] => some [.bool (eqV ⟨a, b, c⟩ ⟨x, y, z⟩)] | _ => none
def T40 : T :=
(.op none (.f2f .f32 .f64) [.v 0] <|
.op none (.f2f .f32 .f64) [.v 3] <|
.call none 4 [.v 6, .v 7] 1 <|
.op none .bnot [.v 8] <|
.ite (.v 9)
 (.out 0 [.c (.bool false)])
 (.op none (.f2f .f32 .f64) [.v 1] <|
 .op none (.f2f .f32 .f64) [.v 4] <|
 .call none 4 [.v 10, .v 11] 1 <|
 .op none .bnot [.v 12] <|
 .ite (.v 13)
  (.out 0 [.c (.bool false)])
  (.op none (.f2f .f32 .f64) [.v 2] <|
  .op none (.f2f .f32 .f64) [.v 5] <|
  .call none 4 [.v 14, .v 15] 1 <|
  .op none .bnot [.v 16] <|
  .ite (.v 17)
   (.out 0 [.c (.bool false)])
   (.out 0 [.c (.bool true)]))))
def S40 (G : Told) (_fuel : Nat) (x0 x1 x2 x3 x4 x5 : D) : Option (Nat × List D) :=
 (gev none (.f2f .f32 .f64) [x0]).bind fun x6 =>
 (gev none (.f2f .f32 .f64) [x3]).bind fun x7 =>
 (gcall G none 4 [x6, x7] 1).bind fun e8 =>
 (gev none .bnot [e8.getD 0 .undef]).bind fun x9 =>
 tif x9 (
  some (0, [.bool false])) (
  (gev none (.f2f .f32 .f64) [x1]).bind fun x10 =>
  (gev none (.f2f .f32 .f64) [x4]).bind fun x11 =>
  (gcall G none 4 [x10, x11] 1).bind fun e12 =>
  (gev none .bnot [e12.getD 0 .undef]).bind fun x13 =>
  tif x13 (
   some (0, [.bool false])) (
   (gev none (.f2f .f32 .f64) [x2]).bind fun x14 =>
   (gev none (.f2f .f32 .f64) [x5]).bind fun x15 =>
   (gcall G none 4 [x14, x15] 1).bind fun e16 =>
   (gev none .bnot [e16.getD 0 .undef]).bind fun x17 =>
   tif x17 (
    some (0, [.bool false])) (
    some (0, [.bool true]))))
theorem eq40 {G fuel} (x0 x1 x2 x3 x4 x5) : run G fuel T40 [x0, x1, x2, x3, x4, x5] = S40 G fuel x0 x1 x2 x3 x4 x5 := by rw [run_eq]; kernel_rfl
attribute [local irreducible] sameP wide

set_option maxHeartbeats 4000000 in
theorem run40 {G : Told} (g4 : G 4 = F4) : Runs G F40 T40 := by
 intro ds rs h
 simp only [F40] at h
 split at h <;> simp only [Option.some.injEq, reduceCtorEq] at h
 subst h
 rename_i a b c x y z
 refine ⟨0, ?_⟩
 rw [eq40]
 unfold S40 eqV sameW
 cases h1 : sameP (wide a) (wide x)
 ·repeat' first
   | (apply st_callt; assumption; exact rfl; exact rfl; assumption)
   | (apply st_callf; assumption; exact rfl; exact rfl; assumption)
   | (apply st_call; assumption; exact rfl; exact rfl; exact rfl)
   | (apply st_wide; exact rfl; exact rfl)
   | (apply st_skip; exact rfl)
   | (apply st_t; exact rfl; exact rfl)
   | (apply st_f; exact rfl; exact rfl)
   | (apply st_t; exact rfl; assumption)
   | (apply st_f; exact rfl; assumption)
   | (apply st_some; exact rfl)
   | refine st_ift ?_
   | refine st_iff ?_
   | exact rfl
 cases h2 : sameP (wide b) (wide y)
 ·repeat' first
   | (apply st_callt; assumption; exact rfl; exact rfl; assumption)
   | (apply st_callf; assumption; exact rfl; exact rfl; assumption)
   | (apply st_call; assumption; exact rfl; exact rfl; exact rfl)
   | (apply st_wide; exact rfl; exact rfl)
   | (apply st_skip; exact rfl)
   | (apply st_t; exact rfl; exact rfl)
   | (apply st_f; exact rfl; exact rfl)
   | (apply st_t; exact rfl; assumption)
   | (apply st_f; exact rfl; assumption)
   | (apply st_some; exact rfl)
   | refine st_ift ?_
   | refine st_iff ?_
   | exact rfl
 cases h3 : sameP (wide c) (wide z)
 ·repeat' first
   | (apply st_callt; assumption; exact rfl; exact rfl; assumption)
   | (apply st_callf; assumption; exact rfl; exact rfl; assumption)
   | (apply st_call; assumption; exact rfl; exact rfl; exact rfl)
   | (apply st_wide; exact rfl; exact rfl)
   | (apply st_skip; exact rfl)
   | (apply st_t; exact rfl; exact rfl)
   | (apply st_f; exact rfl; exact rfl)
   | (apply st_t; exact rfl; assumption)
   | (apply st_f; exact rfl; assumption)
   | (apply st_some; exact rfl)
   | refine st_ift ?_
   | refine st_iff ?_
   | exact rfl
 ·repeat' first
   | (apply st_callt; assumption; exact rfl; exact rfl; assumption)
   | (apply st_callf; assumption; exact rfl; exact rfl; assumption)
   | (apply st_call; assumption; exact rfl; exact rfl; exact rfl)
   | (apply st_wide; exact rfl; exact rfl)
   | (apply st_skip; exact rfl)
   | (apply st_t; exact rfl; exact rfl)
   | (apply st_f; exact rfl; exact rfl)
   | (apply st_t; exact rfl; assumption)
   | (apply st_f; exact rfl; assumption)
   | (apply st_some; exact rfl)
   | refine st_ift ?_
   | refine st_iff ?_
   | exact rfl
end Vs

namespace Vs
open Go
theorem wrapU {i : Int} (h0 : 0 ≤ i) (h : i < 4611686018427387904) : IntKind.wrap .i64 (i + 1) = i + 1 := by
 simp only [IntKind.wrap, IntKind.bits, IntKind.signed]
 have : (i + 1) % 2 ^ 64 = i + 1 := Int.emod_eq_of_lt (by omega) (by omega)
 simp only [this]
 split
 ·rename_i h
  simp at h;omega
 ·rfl
theorem tb {m : Nat} {k : List D → Option (Nat × List D)} {ds : List D} {X : Option (Nat × List D)} (h : ds.length = m) (hk : k ds = X) : tbody m k ds = X := by simp [tbody, h, hk]
theorem idx_at {xs ys : List D} {y : D} {n : Int} (h : n = xs.length) : gev none .idx [.lst (xs ++ y :: ys), .int n] = some y := by
 subst h
 have h2 : (xs.length : Int) < ((xs ++ y :: ys).length : Int) := by simp; omega
 simp only [gev, gok, if_true, Prim.ev]
 rw [if_pos ⟨by omega, h2⟩]
 simp
theorem set_at {xs ys : List D} {y z : D} {n : Int} (h : n = xs.length) : gev none .set [.lst (xs ++ y :: ys), .int n, z] = some (.lst (xs ++ z :: ys)) := by
 subst h
 have h2 : (xs.length : Int) < ((xs ++ y :: ys).length : Int) := by simp; omega
 simp only [gev, gok, if_true, Prim.ev]
 rw [if_pos ⟨by omega, h2⟩]
 simp
def mk : Int → Nat → List D
 | _, 0 => []
 | m, n + 1 => .int m :: mk (m + 1) n
theorem mk_length : ∀ (n : Nat) (m : Int), (mk m n).length = n
 | 0, _ => rfl
 | n + 1, m => by simp [mk, mk_length n]
def tot : List (List D) → Nat
 | [] => 0
 | r :: rs => r.length + tot rs
def mks : Int → List (List D) → List (List D)
 | _, [] => []
 | m, r :: rs => mk m r.length :: mks (m + r.length) rs
theorem tot_mks : ∀ (rs : List (List D)) (m : Int), tot (mks m rs) = tot rs
 | [], _ => rfl
 | r :: rs, m => by simp [tot, mks, mk_length, tot_mks rs]
theorem mks_idem : ∀ (rs : List (List D)) (m : Int), mks m (mks m rs) = mks m rs
 | [], _ => rfl
 | r :: rs, m => by simp [mks, mk_length, mks_idem rs]
theorem mks_length : ∀ (rs : List (List D)) (m : Int), (mks m rs).length = rs.length
 | [], _ => rfl
 | r :: rs, m => by simp [mks, mks_length rs]
def isI : D → Bool | .int _ => true | _ => false
def isL : D → Bool | .lst _ => true | _ => false
def unL : D → List D | .lst l => l | _ => []
theorem unL_map {l : List D} (h : l.all isL = true) : (l.map unL).map D.lst = l := by
 induction l with
 | nil => rfl
 | cons d l ih =>
  simp only [List.all_cons, Bool.and_eq_true] at h;simp only [List.map_cons, ih h.2]
  cases d <;> first | rfl | simp [isL] at h
open Classical in
noncomputable def F100 : List D → Option (List D)
 | [.lst a, .lst b] => if a = b ∧ a.all isI = true ∧ (a.length : Int) < 4611686018427387904 then some [.bool true] else none
 | _ => none
open Classical in
noncomputable def F101 : List D → Option (List D)
 | [.lst a, .lst b] => if a = b ∧ (∀ x ∈ a, F100 [x, x] = some [.bool true]) ∧ (a.length : Int) < 4611686018427387904 then some [.bool true] else none
 | _ => none
def F102 : List D → Option (List D)
 | [.lst a, .int m] => if 0 ≤ m ∧ m + a.length < 4611686018427387904 then some [.int (m + a.length), .lst (mk m a.length)] else none
 | _ => none
def F103 : List D → Option (List D)
 | [.lst a, .int m] => if a.all isL = true ∧ 0 ≤ m ∧ m + tot (a.map unL) < 4611686018427387904 ∧ (a.length : Int) < 4611686018427387904 then some [.int (m + tot (a.map unL)), .lst ((mks m (a.map unL)).map D.lst)] else none
 | _ => none
open Classical in
noncomputable def F104 : List D → Option (List D)
 | [.lst a, .int m] => if a = mk m a.length ∧ 0 ≤ m ∧ m + a.length < 4611686018427387904 then some [.int (m + a.length)] else none
 | _ => none
open Classical in
noncomputable def F105 : List D → Option (List D)
 | [.lst a, .int m] => if a.all isL = true ∧ a.map unL = mks m (a.map unL) ∧ 0 ≤ m ∧ m + tot (a.map unL) < 4611686018427387904 ∧ (a.length : Int) < 4611686018427387904 then some [.int (m + tot (a.map unL))] else none
 | _ => none
def T100 : T :=
(.op none .len [.v 0] <|
.op none .len [.v 1] <|
.op none (.icm .neq) [.v 2, .v 3] <|
.ite (.v 4)
 (.out 0 [.c (.bool false)])
 (.join 4
  (.loop [.c (.int 0)]
   (.op none .len [.v 0] <|
   .op none (.icm .lss) [.v 5, .v 6] <|
   .ite (.v 7)
    (.op none .idx [.v 0, .v 5] <|
    .op none .idx [.v 1, .v 5] <|
    .op none (.icm .neq) [.v 8, .v 9] <|
    .ite (.v 10)
     (.out 2 [.c (.bool false)])
     (.op none (.iar .add .i64) [.v 5, .c (.int 1)] <|
     .out 0 [.v 11]))
    (.out 1 [.v 5, .v 5, .v 6, .v 7])))
 (.out 0 [.c (.bool true)])))
def S100L0 (_G : Told) (x0 : D) (x1 : D) : List D → Option (Nat × List D) := fun e5 =>
    (gev none .len [x0]).bind fun x6 =>
    (gev none (.icm .lss) [e5.getD 0 .undef, x6]).bind fun x7 =>
    tif x7 (
     (gev none .idx [x0, e5.getD 0 .undef]).bind fun x8 =>
     (gev none .idx [x1, e5.getD 0 .undef]).bind fun x9 =>
     (gev none (.icm .neq) [x8, x9]).bind fun x10 =>
     tif x10 (
      some (2, [.bool false])) (
      (gev none (.iar .add .i64) [e5.getD 0 .undef, .int 1]).bind fun x11 =>
      some (0, [x11]))) (
     some (1, [e5.getD 0 .undef, e5.getD 0 .undef, x6, x7]))
def S100 (G : Told) (fuel : Nat) (x0 x1 : D) : Option (Nat × List D) :=
 (gev none .len [x0]).bind fun x2 =>
 (gev none .len [x1]).bind fun x3 =>
 (gev none (.icm .neq) [x2, x3]).bind fun x4 =>
 tif x4 (
  some (0, [.bool false])) (
  tjoin 4 (
   iter (tbody 1 (S100L0 G x0 x1)) fuel [.int 0]) fun _e5 =>
  some (0, [.bool true]))
theorem eq100 {G fuel} (x0 x1) : run G fuel T100 [x0, x1] = S100 G fuel x0 x1 := by rw [run_eq]; kernel_rfl
def T101 : T :=
(.op none .len [.v 0] <|
.op none .len [.v 1] <|
.op none (.icm .neq) [.v 2, .v 3] <|
.ite (.v 4)
 (.out 0 [.c (.bool false)])
 (.join 4
  (.loop [.c (.int 0)]
   (.op none .len [.v 0] <|
   .op none (.icm .lss) [.v 5, .v 6] <|
   .ite (.v 7)
    (.op none .idx [.v 0, .v 5] <|
    .op none .idx [.v 1, .v 5] <|
    .call none 100 [.v 8, .v 9] 1 <|
    .op none .bnot [.v 10] <|
    .ite (.v 11)
     (.out 2 [.c (.bool false)])
     (.op none (.iar .add .i64) [.v 5, .c (.int 1)] <|
     .out 0 [.v 12]))
    (.out 1 [.v 5, .v 5, .v 6, .v 7])))
 (.out 0 [.c (.bool true)])))
def S101L0 (G : Told) (x0 : D) (x1 : D) : List D → Option (Nat × List D) := fun e5 =>
    (gev none .len [x0]).bind fun x6 =>
    (gev none (.icm .lss) [e5.getD 0 .undef, x6]).bind fun x7 =>
    tif x7 (
     (gev none .idx [x0, e5.getD 0 .undef]).bind fun x8 =>
     (gev none .idx [x1, e5.getD 0 .undef]).bind fun x9 =>
     (gcall G none 100 [x8, x9] 1).bind fun e10 =>
     (gev none .bnot [e10.getD 0 .undef]).bind fun x11 =>
     tif x11 (
      some (2, [.bool false])) (
      (gev none (.iar .add .i64) [e5.getD 0 .undef, .int 1]).bind fun x12 =>
      some (0, [x12]))) (
     some (1, [e5.getD 0 .undef, e5.getD 0 .undef, x6, x7]))
def S101 (G : Told) (fuel : Nat) (x0 x1 : D) : Option (Nat × List D) :=
 (gev none .len [x0]).bind fun x2 =>
 (gev none .len [x1]).bind fun x3 =>
 (gev none (.icm .neq) [x2, x3]).bind fun x4 =>
 tif x4 (
  some (0, [.bool false])) (
  tjoin 4 (
   iter (tbody 1 (S101L0 G x0 x1)) fuel [.int 0]) fun _e5 =>
  some (0, [.bool true]))
theorem eq101 {G fuel} (x0 x1) : run G fuel T101 [x0, x1] = S101 G fuel x0 x1 := by rw [run_eq]; kernel_rfl
def T102 : T :=
(.join 6
 (.loop [.v 0, .v 1, .c (.int 0)]
  (.op none .len [.v 2] <|
  .op none (.icm .lss) [.v 4, .v 5] <|
  .ite (.v 6)
   (.op none .idx [.v 2, .v 4] <|
   .op none .set [.v 2, .v 4, .v 3] <|
   .op none (.iar .add .i64) [.v 3, .c (.int 1)] <|
   .op none (.iar .add .i64) [.v 4, .c (.int 1)] <|
   .out 0 [.v 8, .v 9, .v 10])
   (.out 1 [.v 2, .v 3, .v 4, .v 4, .v 5, .v 6])))
(.out 0 [.v 3, .v 2]))
def S102L0 (_G : Told) : List D → Option (Nat × List D) := fun e2 =>
   (gev none .len [e2.getD 0 .undef]).bind fun x5 =>
   (gev none (.icm .lss) [e2.getD 2 .undef, x5]).bind fun x6 =>
   tif x6 (
    (gev none .idx [e2.getD 0 .undef, e2.getD 2 .undef]).bind fun _x7 =>
    (gev none .set [e2.getD 0 .undef, e2.getD 2 .undef, e2.getD 1 .undef]).bind fun x8 =>
    (gev none (.iar .add .i64) [e2.getD 1 .undef, .int 1]).bind fun x9 =>
    (gev none (.iar .add .i64) [e2.getD 2 .undef, .int 1]).bind fun x10 =>
    some (0, [x8, x9, x10])) (
    some (1, [e2.getD 0 .undef, e2.getD 1 .undef, e2.getD 2 .undef, e2.getD 2 .undef, x5, x6]))
def S102 (G : Told) (fuel : Nat) (x0 x1 : D) : Option (Nat × List D) :=
 tjoin 6 (
  iter (tbody 3 (S102L0 G )) fuel [x0, x1, .int 0]) fun e2 =>
 some (0, [e2.getD 1 .undef, e2.getD 0 .undef])
theorem eq102 {G fuel} (x0 x1) : run G fuel T102 [x0, x1] = S102 G fuel x0 x1 := by rw [run_eq]; kernel_rfl
def T103 : T :=
(.join 6
 (.loop [.v 0, .v 1, .c (.int 0)]
  (.op none .len [.v 2] <|
  .op none (.icm .lss) [.v 4, .v 5] <|
  .ite (.v 6)
   (.op none .idx [.v 2, .v 4] <|
   .op none .idx [.v 2, .v 4] <|
   .op none .idx [.v 2, .v 4] <|
   .call none 102 [.v 9, .v 3] 2 <|
   .op none .set [.v 2, .v 4, .v 11] <|
   .op none (.iar .add .i64) [.v 4, .c (.int 1)] <|
   .out 0 [.v 12, .v 10, .v 13])
   (.out 1 [.v 2, .v 3, .v 4, .v 4, .v 5, .v 6])))
(.out 0 [.v 3, .v 2]))
def S103L0 (G : Told) : List D → Option (Nat × List D) := fun e2 =>
   (gev none .len [e2.getD 0 .undef]).bind fun x5 =>
   (gev none (.icm .lss) [e2.getD 2 .undef, x5]).bind fun x6 =>
   tif x6 (
    (gev none .idx [e2.getD 0 .undef, e2.getD 2 .undef]).bind fun _x7 =>
    (gev none .idx [e2.getD 0 .undef, e2.getD 2 .undef]).bind fun _x8 =>
    (gev none .idx [e2.getD 0 .undef, e2.getD 2 .undef]).bind fun x9 =>
    (gcall G none 102 [x9, e2.getD 1 .undef] 2).bind fun e10 =>
    (gev none .set [e2.getD 0 .undef, e2.getD 2 .undef, e10.getD 1 .undef]).bind fun x12 =>
    (gev none (.iar .add .i64) [e2.getD 2 .undef, .int 1]).bind fun x13 =>
    some (0, [x12, e10.getD 0 .undef, x13])) (
    some (1, [e2.getD 0 .undef, e2.getD 1 .undef, e2.getD 2 .undef, e2.getD 2 .undef, x5, x6]))
def S103 (G : Told) (fuel : Nat) (x0 x1 : D) : Option (Nat × List D) :=
 tjoin 6 (
  iter (tbody 3 (S103L0 G )) fuel [x0, x1, .int 0]) fun e2 =>
 some (0, [e2.getD 1 .undef, e2.getD 0 .undef])
theorem eq103 {G fuel} (x0 x1) : run G fuel T103 [x0, x1] = S103 G fuel x0 x1 := by rw [run_eq]; kernel_rfl
def T104 : T :=
(.join 5
 (.loop [.v 1, .c (.int 0)]
  (.op none .len [.v 0] <|
  .op none (.icm .lss) [.v 3, .v 4] <|
  .ite (.v 5)
   (.op none .idx [.v 0, .v 3] <|
   .op none (.icm .neq) [.v 6, .v 2] <|
   .ite (.v 7)
    (.out 2 [(.c (.int (-1)))])
    (.op none (.iar .add .i64) [.v 2, .c (.int 1)] <|
    .op none (.iar .add .i64) [.v 3, .c (.int 1)] <|
    .out 0 [.v 8, .v 9]))
   (.out 1 [.v 2, .v 3, .v 3, .v 4, .v 5])))
(.out 0 [.v 2]))
def S104L0 (_G : Told) (x0 : D) : List D → Option (Nat × List D) := fun e2 =>
   (gev none .len [x0]).bind fun x4 =>
   (gev none (.icm .lss) [e2.getD 1 .undef, x4]).bind fun x5 =>
   tif x5 (
    (gev none .idx [x0, e2.getD 1 .undef]).bind fun x6 =>
    (gev none (.icm .neq) [x6, e2.getD 0 .undef]).bind fun x7 =>
    tif x7 (
     some (2, [(.int (-1))])) (
     (gev none (.iar .add .i64) [e2.getD 0 .undef, .int 1]).bind fun x8 =>
     (gev none (.iar .add .i64) [e2.getD 1 .undef, .int 1]).bind fun x9 =>
     some (0, [x8, x9]))) (
    some (1, [e2.getD 0 .undef, e2.getD 1 .undef, e2.getD 1 .undef, x4, x5]))
def S104 (G : Told) (fuel : Nat) (x0 x1 : D) : Option (Nat × List D) :=
 tjoin 5 (
  iter (tbody 2 (S104L0 G x0)) fuel [x1, .int 0]) fun e2 =>
 some (0, [e2.getD 0 .undef])
theorem eq104 {G fuel} (x0 x1) : run G fuel T104 [x0, x1] = S104 G fuel x0 x1 := by rw [run_eq]; kernel_rfl
def T105 : T :=
(.join 5
 (.loop [.v 1, .c (.int 0)]
  (.op none .len [.v 0] <|
  .op none (.icm .lss) [.v 3, .v 4] <|
  .ite (.v 5)
   (.op none .idx [.v 0, .v 3] <|
   .call none 104 [.v 6, .v 2] 1 <|
   .op none (.icm .lss) [.v 7, .c (.int 0)] <|
   .ite (.v 8)
    (.out 2 [(.c (.int (-1)))])
    (.op none (.iar .add .i64) [.v 3, .c (.int 1)] <|
    .out 0 [.v 7, .v 9]))
   (.out 1 [.v 2, .v 3, .v 3, .v 4, .v 5])))
(.out 0 [.v 2]))
def S105L0 (G : Told) (x0 : D) : List D → Option (Nat × List D) := fun e2 =>
   (gev none .len [x0]).bind fun x4 =>
   (gev none (.icm .lss) [e2.getD 1 .undef, x4]).bind fun x5 =>
   tif x5 (
    (gev none .idx [x0, e2.getD 1 .undef]).bind fun x6 =>
    (gcall G none 104 [x6, e2.getD 0 .undef] 1).bind fun e7 =>
    (gev none (.icm .lss) [e7.getD 0 .undef, .int 0]).bind fun x8 =>
    tif x8 (
     some (2, [(.int (-1))])) (
     (gev none (.iar .add .i64) [e2.getD 1 .undef, .int 1]).bind fun x9 =>
     some (0, [e7.getD 0 .undef, x9]))) (
    some (1, [e2.getD 0 .undef, e2.getD 1 .undef, e2.getD 1 .undef, x4, x5]))
def S105 (G : Told) (fuel : Nat) (x0 x1 : D) : Option (Nat × List D) :=
 tjoin 5 (
  iter (tbody 2 (S105L0 G x0)) fuel [x1, .int 0]) fun e2 =>
 some (0, [e2.getD 0 .undef])
theorem eq105 {G fuel} (x0 x1) : run G fuel T105 [x0, x1] = S105 G fuel x0 x1 := by rw [run_eq]; kernel_rfl
set_option maxHeartbeats 4000000 in
theorem loop100 {G : Told} {l : D} : ∀ (ys xs : List D), l = .lst (xs ++ ys) → ys.all isI = true → ((xs ++ ys).length : Int) < 4611686018427387904 →
  ∃ ds, iter (tbody 1 (S100L0 G l l)) (ys.length + 1) [.int xs.length] = some (0, ds) ∧ ds.length = 4 := by
 intro ys
 induction ys with
 | nil =>
  intro xs hl _ _;subst hl;have h0 : decide ((xs.length : Int) < ((xs ++ []).length : Int)) = false := by simp
  refine ⟨_, iter_end (l := 0) (ds' := [.int xs.length, .int xs.length, .int (xs ++ []).length, .bool false]) ?_ rfl, rfl⟩;refine tb rfl ?_;unfold S100L0
  repeat' first
   | (apply st_f; exact rfl; assumption)
   | (apply st_some; exact rfl)
   | refine st_iff ?_
   | exact rfl
 | cons y ys ih =>
  intro xs hl hi hb;obtain ⟨n, rfl⟩ : ∃ n, y = .int n := by
   simp only [List.all_cons, Bool.and_eq_true] at hi
   cases y <;> first | exact ⟨_, rfl⟩ | simp [isI] at hi
  have h0 : decide ((xs.length : Int) < ((xs ++ .int n :: ys).length : Int)) = true := by simp; omega
  have hx : gev none .idx [l, .int xs.length] = some (.int n) := by rw [hl]; exact idx_at rfl
  have hn : (n != n) = false := by simp
  obtain ⟨ds, h1, h2⟩ := ih (xs ++ [.int n]) (by rw [hl]; simp) (by simp only [List.all_cons, Bool.and_eq_true] at hi; exact hi.2) (by simpa using hb)
  refine ⟨ds, iter_go (ds' := [.int ((xs ++ [D.int n]).length : Int)]) ?_ (by simpa using h1), h2⟩
  refine tb rfl ?_;have hw := wrapU (i := xs.length) (by omega) (by simp at hb; omega)
  rw [show ((xs ++ [D.int n]).length : Int) = IntKind.wrap .i64 ((xs.length : Int) + 1) from by rw [hw]; simp]
  have hlen : gev none .len [l] = some (.int ((xs ++ .int n :: ys).length : Int)) := by rw [hl]; rfl
  clear hl;unfold S100L0
  repeat' first
   | (apply st_some; exact hx)
   | (apply st_some; exact hlen)
   | (apply st_t; exact rfl; assumption)
   | (apply st_f; exact rfl; assumption)
   | (apply st_some; exact rfl)
   | refine st_iff ?_
   | exact rfl
set_option maxHeartbeats 4000000 in
theorem run100 {G : Told} : Runs G F100 T100 := by
 intro ds rs h
 unfold F100 at h
 split at h
 ·rename_i a b
  split at h
  ·rename_i hc
   obtain ⟨rfl, hi, hb⟩ := hc;simp only [Option.some.injEq] at h;subst h;obtain ⟨ds, h1, h2⟩ := loop100 (G := G) (l := .lst a) a [] rfl hi hb;refine ⟨a.length + 1, ?_⟩;rw [eq100];unfold S100;have hn : ((a.length : Int) != (a.length : Int)) = false := by simp
   repeat' first
    | (apply st_join; exact h1; exact h2)
    | (apply st_f; exact rfl; assumption)
    | (apply st_some; exact rfl)
    | exact rfl
  ·cases h
 ·cases h
set_option maxHeartbeats 4000000 in
theorem loop104 {G : Told} {l : D} : ∀ (k : Nat) (xs : List D) (m : Int), l = .lst (xs ++ mk m k) → 0 ≤ m → m + k < 4611686018427387904 → (xs.length : Int) + k < 4611686018427387904 →
  ∃ ds, iter (tbody 2 (S104L0 G l)) (k + 1) [.int m, .int xs.length] = some (0, .int (m + k) :: ds) ∧ ds.length = 4 := by
 intro k
 induction k with
 | zero =>
  intro xs m hl _ _ _;subst hl;have h0 : decide ((xs.length : Int) < ((xs ++ mk m 0).length : Int)) = false := by simp [mk]
  refine ⟨[.int xs.length, .int xs.length, .int (xs ++ mk m 0).length, .bool false], iter_end (l := 0) (ds' := [.int m, .int xs.length, .int xs.length, .int (xs ++ mk m 0).length, .bool false]) ?_ (by simp), rfl⟩
  refine tb rfl ?_;unfold S104L0
  repeat' first
   | (apply st_f; exact rfl; assumption)
   | (apply st_some; exact rfl)
   | refine st_iff ?_
   | exact rfl
 | succ k ih =>
  intro xs m hl hm hb hc;have h0 : decide ((xs.length : Int) < ((xs ++ mk m (k + 1)).length : Int)) = true := by simp [mk]; omega
  have hx : gev none .idx [l, .int xs.length] = some (.int m) := by rw [hl]; exact idx_at rfl
  have hn : (m != m) = false := by simp
  obtain ⟨ds, h1, h2⟩ := ih (xs ++ [.int m]) (m + 1) (by rw [hl]; simp [mk]) (by omega) (by omega) (by simp; omega)
  refine ⟨ds, iter_go (ds' := [.int (m + 1), .int ((xs ++ [D.int m]).length : Int)]) ?_ (by rw [h1]; congr 3; simp; omega), h2⟩
  refine tb rfl ?_;have hw := wrapU (i := xs.length) (by omega) (by omega)
  rw [show ((xs ++ [D.int m]).length : Int) = IntKind.wrap .i64 ((xs.length : Int) + 1) from by rw [hw]; simp, ← wrapU hm (by omega)]
  have hlen : gev none .len [l] = some (.int ((xs ++ mk m (k + 1)).length : Int)) := by rw [hl]; rfl
  clear hl;unfold S104L0
  repeat' first
   | (apply st_some; exact hx)
   | (apply st_some; exact hlen)
   | (apply st_t; exact rfl; assumption)
   | (apply st_f; exact rfl; assumption)
   | (apply st_some; exact rfl)
   | refine st_iff ?_
   | exact rfl
set_option maxHeartbeats 4000000 in
theorem run104 {G : Told} : Runs G F104 T104 := by
 intro ds rs h
 unfold F104 at h
 split at h
 ·rename_i a m
  split at h
  ·rename_i hc
   obtain ⟨ha, hm, hb⟩ := hc;simp only [Option.some.injEq] at h;subst h;obtain ⟨ds, h1, h2⟩ := loop104 (G := G) (l := .lst a) a.length [] m (by rw [← ha]; rfl) hm hb (by simp; omega)
   refine ⟨a.length + 1, ?_⟩;rw [eq104];unfold S104;refine st_join h1 (by simp [h2]) ?_
   rfl
  ·cases h
 ·cases h
set_option maxHeartbeats 4000000 in
theorem loop102 {G : Told} : ∀ (ys xs : List D) (m : Int), 0 ≤ m → m + ys.length < 4611686018427387904 → (xs.length : Int) + ys.length < 4611686018427387904 →
  ∃ ds, iter (tbody 3 (S102L0 G)) (ys.length + 1) [.lst (xs ++ ys), .int m, .int xs.length] = some (0, .lst (xs ++ mk m ys.length) :: .int (m + ys.length) :: ds) ∧ ds.length = 4 := by
 intro ys
 induction ys with
 | nil =>
  intro xs m _ _ _;have h0 : decide ((xs.length : Int) < ((xs ++ []).length : Int)) = false := by simp
  refine ⟨[.int xs.length, .int xs.length, .int (xs ++ []).length, .bool false], iter_end (l := 0) (ds' := [.lst (xs ++ []), .int m, .int xs.length, .int xs.length, .int (xs ++ []).length, .bool false]) ?_ (by simp [mk]), rfl⟩
  refine tb rfl ?_;unfold S102L0
  repeat' first
   | (apply st_f; exact rfl; assumption)
   | (apply st_some; exact rfl)
   | refine st_iff ?_
   | exact rfl
 | cons y ys ih =>
  intro xs m hm hb hc;simp only [List.length_cons] at hb hc;have h0 : decide ((xs.length : Int) < ((xs ++ y :: ys).length : Int)) = true := by simp; omega
  have hx : gev none .idx [.lst (xs ++ y :: ys), .int xs.length] = some y := idx_at rfl;have hs : gev none .set [.lst (xs ++ y :: ys), .int xs.length, .int m] = some (.lst (xs ++ .int m :: ys)) := set_at rfl;obtain ⟨ds, h1, h2⟩ := ih (xs ++ [.int m]) (m + 1) (by omega) (by omega) (by simp; omega)
  refine ⟨ds, iter_go (ds' := [.lst (xs ++ .int m :: ys), .int (m + 1), .int ((xs ++ [D.int m]).length : Int)]) ?_ ?_, h2⟩
  ·refine tb rfl ?_
   have hw := wrapU (i := xs.length) (by omega) (by omega)
   rw [show ((xs ++ [D.int m]).length : Int) = IntKind.wrap .i64 ((xs.length : Int) + 1) from by rw [hw]; simp, ← wrapU hm (by omega)]
   unfold S102L0
   repeat' first
    | (apply st_some; exact hx)
    | (apply st_some; exact hs)
    | (apply st_t; exact rfl; assumption)
    | (apply st_some; exact rfl)
    | exact rfl
  ·have e : xs ++ [D.int m] ++ ys = xs ++ .int m :: ys := by simp
   rw [e] at h1;refine h1.trans ?_;simp [mk];omega
set_option maxHeartbeats 4000000 in
theorem run102 {G : Told} : Runs G F102 T102 := by
 intro ds rs h
 unfold F102 at h
 split at h
 ·rename_i a m
  split at h
  ·rename_i hc
   obtain ⟨hm, hb⟩ := hc;simp only [Option.some.injEq] at h;subst h;obtain ⟨ds, h1, h2⟩ := loop102 (G := G) a [] m hm hb (by simp; omega)
   refine ⟨a.length + 1, ?_⟩;rw [eq102];unfold S102;refine st_join h1 (by simp [h2]) ?_
   rfl
  ·cases h
 ·cases h
set_option maxHeartbeats 4000000 in
theorem loop101 {G : Told} (g100 : G 100 = F100) {l : D} : ∀ (ys xs : List D), l = .lst (xs ++ ys) → (∀ x ∈ ys, F100 [x, x] = some [.bool true]) → ((xs ++ ys).length : Int) < 4611686018427387904 →
  ∃ ds, iter (tbody 1 (S101L0 G l l)) (ys.length + 1) [.int xs.length] = some (0, ds) ∧ ds.length = 4 := by
 intro ys
 induction ys with
 | nil =>
  intro xs hl _ _;subst hl;have h0 : decide ((xs.length : Int) < ((xs ++ []).length : Int)) = false := by simp
  refine ⟨_, iter_end (l := 0) (ds' := [.int xs.length, .int xs.length, .int (xs ++ []).length, .bool false]) ?_ rfl, rfl⟩;refine tb rfl ?_;unfold S101L0
  repeat' first
   | (apply st_f; exact rfl; assumption)
   | (apply st_some; exact rfl)
   | refine st_iff ?_
   | exact rfl
 | cons y ys ih =>
  intro xs hl hi hb;have h0 : decide ((xs.length : Int) < ((xs ++ y :: ys).length : Int)) = true := by simp; omega
  have hx : gev none .idx [l, .int xs.length] = some y := by rw [hl]; exact idx_at rfl
  have hf := hi y (by simp)
  obtain ⟨ds, h1, h2⟩ := ih (xs ++ [y]) (by rw [hl]; simp) (fun x hx => hi x (by simp [hx])) (by simpa using hb)
  refine ⟨ds, iter_go (ds' := [.int ((xs ++ [y]).length : Int)]) ?_ (by simpa using h1), h2⟩
  refine tb rfl ?_;have hw := wrapU (i := xs.length) (by omega) (by simp at hb; omega)
  rw [show ((xs ++ [y]).length : Int) = IntKind.wrap .i64 ((xs.length : Int) + 1) from by rw [hw]; simp]
  have hlen : gev none .len [l] = some (.int ((xs ++ y :: ys).length : Int)) := by rw [hl]; rfl
  clear hl;unfold S101L0
  repeat' first
   | (apply st_some; exact hx)
   | (apply st_some; exact hlen)
   | (apply st_call; exact g100; exact rfl; exact hf; exact rfl)
   | (apply st_f; exact rfl; exact rfl)
   | (apply st_t; exact rfl; assumption)
   | (apply st_some; exact rfl)
   | refine st_iff ?_
   | exact rfl
set_option maxHeartbeats 4000000 in
theorem run101 {G : Told} (g100 : G 100 = F100) : Runs G F101 T101 := by
 intro ds rs h
 unfold F101 at h
 split at h
 ·rename_i a b
  split at h
  ·rename_i hc
   obtain ⟨rfl, hi, hb⟩ := hc;simp only [Option.some.injEq] at h;subst h;obtain ⟨ds, h1, h2⟩ := loop101 g100 (l := .lst a) a [] rfl hi hb;refine ⟨a.length + 1, ?_⟩;rw [eq101];unfold S101;have hn : ((a.length : Int) != (a.length : Int)) = false := by simp
   repeat' first
    | (apply st_join; exact h1; exact h2)
    | (apply st_f; exact rfl; assumption)
    | (apply st_some; exact rfl)
    | exact rfl
  ·cases h
 ·cases h
set_option maxHeartbeats 4000000 in
theorem loop103 {G : Told} (g102 : G 102 = F102) : ∀ (ys : List (List D)) (xs : List D) (m : Int), 0 ≤ m → m + tot ys < 4611686018427387904 → (xs.length : Int) + ys.length < 4611686018427387904 →
  ∃ ds, iter (tbody 3 (S103L0 G)) (ys.length + 1) [.lst (xs ++ ys.map D.lst), .int m, .int xs.length] = some (0, .lst (xs ++ (mks m ys).map D.lst) :: .int (m + tot ys) :: ds) ∧ ds.length = 4 := by
 intro ys
 induction ys with
 | nil =>
  intro xs m _ _ _;have h0 : decide ((xs.length : Int) < ((xs ++ ([] : List (List D)).map D.lst).length : Int)) = false := by simp
  refine ⟨[.int xs.length, .int xs.length, .int (xs ++ ([] : List (List D)).map D.lst).length, .bool false], iter_end (l := 0) (ds' := [.lst (xs ++ ([] : List (List D)).map D.lst), .int m, .int xs.length, .int xs.length, .int (xs ++ ([] : List (List D)).map D.lst).length, .bool false]) ?_ (by simp [mks, tot]), rfl⟩
  refine tb rfl ?_;unfold S103L0
  repeat' first
   | (apply st_f; exact rfl; assumption)
   | (apply st_some; exact rfl)
   | refine st_iff ?_
   | exact rfl
 | cons y ys ih =>
  intro xs m hm hb hc;simp only [List.length_cons, tot, Int.natCast_add] at hb hc;have h0 : decide ((xs.length : Int) < ((xs ++ (y :: ys).map D.lst).length : Int)) = true := by simp; omega
  have hx : gev none .idx [.lst (xs ++ (y :: ys).map D.lst), .int xs.length] = some (.lst y) := idx_at rfl;have hs : gev none .set [.lst (xs ++ (y :: ys).map D.lst), .int xs.length, .lst (mk m y.length)] = some (.lst (xs ++ .lst (mk m y.length) :: ys.map D.lst)) := set_at rfl;have hf : F102 [.lst y, .int m] = some [.int (m + y.length), .lst (mk m y.length)] := by simp only [F102];rw [if_pos ⟨hm, by omega⟩]
  obtain ⟨ds, h1, h2⟩ := ih (xs ++ [.lst (mk m y.length)]) (m + y.length) (by omega) (by omega) (by simp; omega)
  refine ⟨ds, iter_go (ds' := [.lst (xs ++ .lst (mk m y.length) :: ys.map D.lst), .int (m + y.length), .int ((xs ++ [D.lst (mk m y.length)]).length : Int)]) ?_ ?_, h2⟩
  ·refine tb rfl ?_
   have hw := wrapU (i := xs.length) (by omega) (by omega)
   rw [show ((xs ++ [D.lst (mk m y.length)]).length : Int) = IntKind.wrap .i64 ((xs.length : Int) + 1) from by rw [hw]; simp]
   unfold S103L0
   repeat' first
    | (apply st_some; exact hx)
    | (apply st_some; exact hs)
    | (apply st_call; exact g102; exact rfl; exact hf; exact rfl)
    | (apply st_t; exact rfl; assumption)
    | (apply st_some; exact rfl)
    | exact rfl
  ·have e : xs ++ [D.lst (mk m y.length)] ++ ys.map D.lst = xs ++ .lst (mk m y.length) :: ys.map D.lst := by simp
   rw [e] at h1;refine h1.trans ?_;simp [mks, tot];omega
set_option maxHeartbeats 4000000 in
theorem run103 {G : Told} (g102 : G 102 = F102) : Runs G F103 T103 := by
 intro ds rs h
 unfold F103 at h
 split at h
 ·rename_i a m
  split at h
  ·rename_i hc
   obtain ⟨hl, hm, hb, hn⟩ := hc;simp only [Option.some.injEq] at h;subst h;obtain ⟨ds, h1, h2⟩ := loop103 g102 (a.map unL) [] m hm hb (by simp; omega)
   rw [List.nil_append, unL_map hl] at h1;refine ⟨(a.map unL).length + 1, ?_⟩;rw [eq103];unfold S103;refine st_join h1 (by simp [h2]) ?_
   rfl
  ·cases h
 ·cases h
set_option maxHeartbeats 4000000 in
theorem loop105 {G : Told} (g104 : G 104 = F104) {l : D} : ∀ (ys : List (List D)) (xs : List D) (m : Int), l = .lst (xs ++ (mks m ys).map D.lst) → 0 ≤ m → m + tot ys < 4611686018427387904 → (xs.length : Int) + ys.length < 4611686018427387904 →
  ∃ ds, iter (tbody 2 (S105L0 G l)) (ys.length + 1) [.int m, .int xs.length] = some (0, .int (m + tot ys) :: ds) ∧ ds.length = 4 := by
 intro ys
 induction ys with
 | nil =>
  intro xs m hl _ _ _;subst hl;have h0 : decide ((xs.length : Int) < ((xs ++ (mks m []).map D.lst).length : Int)) = false := by simp [mks]
  refine ⟨[.int xs.length, .int xs.length, .int (xs ++ (mks m []).map D.lst).length, .bool false], iter_end (l := 0) (ds' := [.int m, .int xs.length, .int xs.length, .int (xs ++ (mks m []).map D.lst).length, .bool false]) ?_ (by simp [tot]), rfl⟩
  refine tb rfl ?_;unfold S105L0
  repeat' first
   | (apply st_f; exact rfl; assumption)
   | (apply st_some; exact rfl)
   | refine st_iff ?_
   | exact rfl
 | cons y ys ih =>
  intro xs m hl hm hb hc;simp only [List.length_cons, tot, Int.natCast_add] at hb hc;have h0 : decide ((xs.length : Int) < ((xs ++ (mks m (y :: ys)).map D.lst).length : Int)) = true := by simp [mks]; omega
  have hx : gev none .idx [l, .int xs.length] = some (.lst (mk m y.length)) := by rw [hl]; exact idx_at rfl
  have hf : F104 [.lst (mk m y.length), .int m] = some [.int (m + y.length)] := by simp only [F104, mk_length];rw [if_pos ⟨trivial, hm, by omega⟩]
  have hneg : decide (m + (y.length : Int) < 0) = false := by simp; omega
  obtain ⟨ds, h1, h2⟩ := ih (xs ++ [.lst (mk m y.length)]) (m + y.length) (by rw [hl]; simp [mks]) (by omega) (by omega) (by simp; omega)
  refine ⟨ds, iter_go (ds' := [.int (m + y.length), .int ((xs ++ [D.lst (mk m y.length)]).length : Int)]) ?_ (h1.trans (by simp [tot]; omega)), h2⟩
  refine tb rfl ?_;have hw := wrapU (i := xs.length) (by omega) (by omega)
  rw [show ((xs ++ [D.lst (mk m y.length)]).length : Int) = IntKind.wrap .i64 ((xs.length : Int) + 1) from by rw [hw]; simp]
  have hlen : gev none .len [l] = some (.int ((xs ++ (mks m (y :: ys)).map D.lst).length : Int)) := by rw [hl]; rfl
  clear hl;unfold S105L0
  repeat' first
   | (apply st_some; exact hx)
   | (apply st_some; exact hlen)
   | (apply st_call; exact g104; exact rfl; exact hf; exact rfl)
   | (apply st_t; exact rfl; assumption)
   | (apply st_f; exact rfl; assumption)
   | (apply st_some; exact rfl)
   | refine st_iff ?_
   | exact rfl
set_option maxHeartbeats 4000000 in
theorem run105 {G : Told} (g104 : G 104 = F104) : Runs G F105 T105 := by
 intro ds rs h
 unfold F105 at h
 split at h
 ·rename_i a m
  split at h
  ·rename_i hc
   obtain ⟨hl, hk, hm, hb, hn⟩ := hc;simp only [Option.some.injEq] at h;subst h;obtain ⟨ds, h1, h2⟩ := loop105 g104 (l := .lst a) (a.map unL) [] m (by rw [List.nil_append, ← hk, unL_map hl]) hm hb (by simp; omega)
   refine ⟨(a.map unL).length + 1, ?_⟩;rw [eq105];unfold S105;refine st_join h1 (by simp [h2]) ?_
   rfl
  ·cases h
 ·cases h
end Vs

