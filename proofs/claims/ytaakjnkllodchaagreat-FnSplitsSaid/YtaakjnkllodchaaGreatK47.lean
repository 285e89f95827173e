/-
  The forms of R8Form, reckoned.
-/
import Derived.Test.YtaakjnkllodchaaGreatK46
import Derived.Test.YtaakjnkllodchaaGreatK34
import Derived.Test.YtaakjnkllodchaaGreatKs
import Derived.KernelRfl
set_option maxHeartbeats 4000000
namespace Vs
open Go
theorem run_le {G G' : Told} (hG : ∀ k ds rs, G k ds = some rs → G' k ds = some rs) {f : Nat} : ∀ {t : T} {ρ : List D} {r : Nat × List D}, run G f t ρ = some r → run G' f t ρ = some r
 | .op g p xs k, ρ, r, h => by
  unfold run at h ⊢;split at h
  ·rename_i hg
   rw [if_pos hg];split at h
   ·rename_i d hd
    exact run_le hG h
   ·cases h
  ·rename_i hg
   rw [if_neg hg];exact run_le hG h
 | .call g c xs m k, ρ, r, h => by
  unfold run at h ⊢;split at h
  ·rename_i hg
   rw [if_pos hg];split at h
   ·rename_i ds hd
    split at h
    ·rename_i hl
     rw [hG _ _ _ hd]
     dsimp only
     rw [if_pos hl];exact run_le hG h
    ·cases h
   ·cases h
  ·rename_i hg
   rw [if_neg hg];exact run_le hG h
 | .ite c t e, ρ, r, h => by
  unfold run at h ⊢;split at h
  ·exact run_le hG h
  ·exact run_le hG h
  ·cases h
 | .join m t k, ρ, r, h => by
  unfold run at h ⊢;split at h
  ·rename_i ds ht
   rw [run_le hG ht]
   dsimp only
   split at h
   ·rename_i hl
    rw [if_pos hl];exact run_le hG h
   ·cases h
  ·rename_i l ds ht
   rw [run_le hG ht];exact h
  ·cases h
 | .loop xs b, ρ, r, h => by
  unfold run at h ⊢;refine iter_mono (fun ds r hd => ?_) h (Nat.le_refl _)
  split at hd
  ·rename_i hl
   rw [if_pos hl];exact run_le hG hd
  ·cases hd
 | .out l xs, ρ, r, h => h
def ilC : List D → Option (List Int)
 | [] => some []
 | .int x :: r => (ilC r).map (x :: ·)
 | _ => none
def tlC : List D → Option (List (List Int))
 | [] => some []
 | .lst l :: r => match ilC l, tlC r with | some a, some b => some (a :: b) | _, _ => none
 | _ => none
def vlC : List D → Option (List V3)
 | [] => some []
 | .agg [.flt a, .flt b, .flt c] :: r => (vlC r).map (⟨a, b, c⟩ :: ·)
 | _ => none
theorem ilC_ok : ∀ {l : List D} {xs : List Int}, ilC l = some xs → l = xs.map D.int
 | [], xs, h => by simp only [ilC, Option.some.injEq] at h; subst h; rfl
 | d :: r, xs, h => by
  unfold ilC at h;split at h
  ·rename_i heq; cases heq
  ·rename_i x r' heq
   simp only [List.cons.injEq] at heq;obtain ⟨rfl, rfl⟩ := heq;obtain ⟨ys, h1, rfl⟩ := Option.map_eq_some_iff.1 h;rw [ilC_ok h1];rfl
  ·cases h
theorem tlC_ok : ∀ {l : List D} {ts : List (List Int)}, tlC l = some ts → D.lst l = tl ts
 | [], ts, h => by simp only [tlC, Option.some.injEq] at h; subst h; rfl
 | d :: r, ts, h => by
  unfold tlC at h;split at h
  ·rename_i heq; cases heq
  ·rename_i x r' heq
   simp only [List.cons.injEq] at heq;obtain ⟨rfl, rfl⟩ := heq;split at h
   ·rename_i a b h1 h2
    simp only [Option.some.injEq] at h;subst h;have := tlC_ok h2;unfold tl at this ⊢;simp only [D.lst.injEq] at this;rw [ilC_ok h1, this];rfl
   ·cases h
  ·cases h
theorem vlC_ok : ∀ {l : List D} {vs : List V3}, vlC l = some vs → D.lst l = vl vs
 | [], vs, h => by simp only [vlC, Option.some.injEq] at h; subst h; rfl
 | d :: r, vs, h => by
  unfold vlC at h;split at h
  ·rename_i heq; cases heq
  ·rename_i a b c r' heq
   simp only [List.cons.injEq] at heq;obtain ⟨rfl, rfl⟩ := heq;obtain ⟨ys, h1, rfl⟩ := Option.map_eq_some_iff.1 h;have := vlC_ok h1;unfold vl at this ⊢;simp only [D.lst.injEq] at this;rw [this];rfl
  ·cases h
def C413 : List D → Option (List D)
 | [.lst a, .lst b] => match vlC a, tlC b with | some vs, some ts => if validP vs.length ts = true then some [tl (etl (edgL ts vs.length))] else none | _, _ => none
 | _ => none
def C151 : List D → Option (List D)
 | [.lst a, .lst b] => match vlC a, tlC b with | some vs, some ts => if szM vs ts ≤ 1048576 then some [vl vs, tl ts] else none | _, _ => none
 | _ => none
theorem C413_le {ds rs : List D} (h : C413 ds = some rs) : F413 ds = some rs := by
 unfold C413 at h
 split at h
 ·split at h
  ·rename_i h1 h2
   split at h
   ·rename_i hv
    rw [vlC_ok h1, tlC_ok h2, F413_m hv];exact h
   ·cases h
  ·cases h
 ·cases h
theorem C151_le {ds rs : List D} (h : C151 ds = some rs) : F151 ds = some rs := by
 unfold C151 at h
 split at h
 ·split at h
  ·rename_i h1 h2
   split at h
   ·rename_i hv
    rw [vlC_ok h1, tlC_ok h2];exact (F145_m hv).trans h
   ·cases h
  ·cases h
 ·cases h
def idxP (a b : Int) : List (List Int) → Nat → Option Int
 | [], _ => some 0
 | (x :: y :: _) :: r, i => if (x == min a b) = true ∧ (y == max a b) = true then some (i : Int) else idxP a b r (i + 1)
 | _ :: _, _ => none
def F552 : List D → Option (List D)
 | [.lst e, .int a, .int b] => match tlC e with | some es => if es.length ≤ 1000 then (idxP a b es 0).map fun i => [.int i] else none | none => none
 | _ => none
def F550 : List D → Option (List D)
 | [.flt x] => some [.bool (overP x)]
 | _ => none
def T544 : T :=
(oo (.icm .eql) [0, kI 0] <|
.join 2
 (.ite 1
  (cc 545 [kI 2, kI 2, kF 1065353216] 2 <|
  .out 0 [2, 3])
  (oo (.icm .eql) [0, kI 1] <|
  .join 2
   (.ite 2
    (cc 546 [kI 4, kI 2, kF 1073741824, kF 1056964608] 2 <|
    .out 0 [3, 4])
    (oo (.icm .eql) [0, kI 2] <|
    .join 2
     (.ite 3
      (cc 549 [kF 1073741824] 3 <|
      .out 0 [4, 5])
      (oo (.icm .eql) [0, kI 3] <|
      .join 2
       (.ite 4
        (cc 551 [kI 0, kF 1073741824] 2 <|
        .out 0 [5, 6])
        (cc 551 [kI 1, kF 1073741824] 2 <|
        .out 0 [5, 6]))
      (.out 0 [5, 6])))
    (.out 0 [4, 5])))
  (.out 0 [3, 4])))
(.out 0 [2, 3]))
def S544 (G : Told) (_fuel : Nat) (x0 : D) : Option (Nat × List D) :=
 (gev none (.icm .eql) [x0, .int 0]).bind fun x1 =>
 tjoin 2 (
  tif x1 (
   (gcall G none 545 [.int 2, .int 2, .flt 1065353216] 2).bind fun e2 =>
   some (0, [e2.getD 0 .undef, e2.getD 1 .undef])) (
   (gev none (.icm .eql) [x0, .int 1]).bind fun x2 =>
   tjoin 2 (
    tif x2 (
     (gcall G none 546 [.int 4, .int 2, .flt 1073741824, .flt 1056964608] 2).bind fun e3 =>
     some (0, [e3.getD 0 .undef, e3.getD 1 .undef])) (
     (gev none (.icm .eql) [x0, .int 2]).bind fun x3 =>
     tjoin 2 (
      tif x3 (
       (gcall G none 549 [.flt 1073741824] 3).bind fun e4 =>
       some (0, [e4.getD 0 .undef, e4.getD 1 .undef])) (
       (gev none (.icm .eql) [x0, .int 3]).bind fun x4 =>
       tjoin 2 (
        tif x4 (
         (gcall G none 551 [.int 0, .flt 1073741824] 2).bind fun e5 =>
         some (0, [e5.getD 0 .undef, e5.getD 1 .undef])) (
         (gcall G none 551 [.int 1, .flt 1073741824] 2).bind fun e5 =>
         some (0, [e5.getD 0 .undef, e5.getD 1 .undef]))) fun e5 =>
       some (0, [e5.getD 0 .undef, e5.getD 1 .undef]))) fun e4 =>
     some (0, [e4.getD 0 .undef, e4.getD 1 .undef]))) fun e3 =>
   some (0, [e3.getD 0 .undef, e3.getD 1 .undef]))) fun e2 =>
 some (0, [e2.getD 0 .undef, e2.getD 1 .undef])
theorem eq544 {G fuel} (x0) : run G fuel T544 [x0] = S544 G fuel x0 := by rw [run_eq]; kernel_rfl
def T545 : T :=
(oo .mklst [] <|
oo .mklst [] <|
.join 4
 (.loop [3, kI 0]
  (oo (.icm .leq) [6, 1] <|
  .ite 7
   (.join 4
    (.loop [5, kI 0]
     (oo (.icm .leq) [9, 0] <|
     .ite 10
      (oo (.i2f .f32) [9] <|
      oo (.far .mul .f32) [11, 2] <|
      oo (.i2f .f32) [6] <|
      oo (.far .mul .f32) [13, 2] <|
      oo .mkagg [12, 14, kF 0] <|
      oo .mklst [15] <|
      oo .app [8, 16] <|
      oo (.iar .add .i64) [9, kI 1] <|
      .out 0 [17, 18])
      (.out 1 [8, 9, 9, 10])))
   (oo (.iar .add .i64) [6, kI 1] <|
   .out 0 [8, 12]))
   (.out 1 [5, 6, 6, 7])))
(.join 4
 (.loop [4, kI 0]
  (oo (.icm .lss) [10, 1] <|
  .ite 11
   (.join 4
    (.loop [9, kI 0]
     (oo (.icm .lss) [13, 0] <|
     .ite 14
      (oo (.iar .add .i64) [0, kI 1] <|
      oo (.iar .mul .i64) [15, 10] <|
      oo (.iar .add .i64) [13, 16] <|
      oo (.iar .add .i64) [17, 0] <|
      oo (.iar .add .i64) [18, kI 1] <|
      oo (.iar .add .i64) [17, kI 1] <|
      oo (.iar .add .i64) [19, kI 1] <|
      oo .mklst [17, 20, 21] <|
      oo (.iar .add .i64) [19, kI 1] <|
      oo .mklst [17, 23, 19] <|
      oo .mklst [22, 24] <|
      oo .app [12, 25] <|
      oo (.iar .add .i64) [13, kI 1] <|
      .out 0 [26, 27])
      (.out 1 [12, 13, 13, 14])))
   (oo (.iar .add .i64) [10, kI 1] <|
   .out 0 [12, 16]))
   (.out 1 [9, 10, 10, 11])))
(.out 0 [5, 9])))
def T546 : T :=
(oo .mklst [] <|
oo .mklst [] <|
.join 4
 (.loop [4, kI 0]
  (oo (.icm .leq) [7, 1] <|
  .ite 8
   (.join 4
    (.loop [6, kI 0]
     (oo (.icm .lss) [10, 0] <|
     .ite 11
      (oo (.i2f .f32) [10] <|
      oo (.i2f .f32) [0] <|
      oo (.far .quo .f32) [12, 13] <|
      oo (.far .add .f32) [14, kF 1048576000] <|
      cc 474 [15] 1 <|
      oo (.far .mul .f32) [2, 16] <|
      cc 474 [14] 1 <|
      oo (.far .mul .f32) [2, 18] <|
      oo (.i2f .f32) [7] <|
      oo (.far .mul .f32) [20, 3] <|
      oo .mkagg [17, 19, 21] <|
      oo .mklst [22] <|
      oo .app [9, 23] <|
      oo (.iar .add .i64) [10, kI 1] <|
      .out 0 [24, 25])
      (.out 1 [9, 10, 10, 11])))
   (oo (.iar .add .i64) [7, kI 1] <|
   .out 0 [9, 13]))
   (.out 1 [6, 7, 7, 8])))
(.join 4
 (.loop [5, kI 0]
  (oo (.icm .lss) [11, 1] <|
  .ite 12
   (.join 4
    (.loop [10, kI 0]
     (oo (.icm .lss) [14, 0] <|
     .ite 15
      (oo (.iar .mul .i64) [0, 11] <|
      oo (.iar .add .i64) [14, 16] <|
      oo (.iar .add .i64) [14, kI 1] <|
      oo (.idv .rem .i64) [18, 0] <|
      oo (.iar .mul .i64) [0, 11] <|
      oo (.iar .add .i64) [19, 20] <|
      oo (.iar .add .i64) [21, 0] <|
      oo .mklst [17, 21, 22] <|
      oo (.iar .add .i64) [21, 0] <|
      oo (.iar .add .i64) [17, 0] <|
      oo .mklst [17, 24, 25] <|
      oo .mklst [23, 26] <|
      oo .app [13, 27] <|
      oo (.iar .add .i64) [14, kI 1] <|
      .out 0 [28, 29])
      (.out 1 [13, 14, 14, 15])))
   (oo (.iar .add .i64) [11, kI 1] <|
   .out 0 [13, 17]))
   (.out 1 [10, 11, 11, 12])))
(.out 0 [6, 10])))
def T549 : T :=
(cc 550 [0] 1 <|
oo .bnot [1] <|
.ite 2
 (.out 0 [kL, kL, kN])
 (.join 4
  (.loop [kL, (.c (.int 0))]
   (oo (.icm .lss) [4, kI 8] <|
   .ite 5
    (oo (.ibt .and .i64) [4, kI 1] <|
    oo (.icm .eql) [6, kI 1] <|
    .join 1
     (.ite 7
      (.out 0 [0])
      (.out 0 [kF 0]))
    (oo (.ibt .and .i64) [4, kI 2] <|
    oo (.icm .eql) [9, kI 2] <|
    .join 1
     (.ite 10
      (.out 0 [0])
      (.out 0 [kF 0]))
    (oo (.ibt .and .i64) [4, kI 4] <|
    oo (.icm .eql) [12, kI 4] <|
    .join 1
     (.ite 13
      (.out 0 [0])
      (.out 0 [kF 0]))
    (oo .mkagg [8, 11, 14] <|
    oo .mklst [15] <|
    oo .app [3, 16] <|
    oo (.iar .add .i64) [4, kI 1] <|
    .out 0 [17, 18]))))
    (.out 1 [3, 4, 4, 5])))
 (oo .mklst [kI 0, kI 2, kI 3] <|
 oo .mklst [kI 0, kI 3, kI 1] <|
 oo .mklst [kI 4, kI 5, kI 7] <|
 oo .mklst [kI 4, kI 7, kI 6] <|
 oo .mklst [kI 0, kI 1, kI 5] <|
 oo .mklst [kI 0, kI 5, kI 4] <|
 oo .mklst [kI 2, kI 6, kI 7] <|
 oo .mklst [kI 2, kI 7, kI 3] <|
 oo .mklst [kI 0, kI 4, kI 6] <|
 oo .mklst [kI 0, kI 6, kI 2] <|
 oo .mklst [kI 1, kI 3, kI 7] <|
 oo .mklst [kI 1, kI 7, kI 5] <|
 oo .mklst [7, 8, 9, 10, 11, 12, 13, 14, 15, 16, 17, 18] <|
 .out 0 [3, 19, kT])))
def T550 : T :=
(cc 1 [0] 1 <|
oT 1 .id [0] <|
oT 1 (.fcm .gtr .f32) [2, kF 0] <|
oo .pick [1, 3, kN] <|
.out 0 [4])
def S550 (G : Told) (_fuel : Nat) (x0 : D) : Option (Nat × List D) :=
 (gcall G none 1 [x0] 1).bind fun e1 =>
 (gev (some ((e1.getD 0 .undef), true)) .id [x0]).bind fun x2 =>
 (gev (some ((e1.getD 0 .undef), true)) (.fcm .gtr .f32) [x2, .flt 0]).bind fun x3 =>
 (gev none .pick [e1.getD 0 .undef, x3, .bool false]).bind fun x4 =>
 some (0, [x4])
theorem eq550 {G fuel} (x0) : run G fuel T550 [x0] = S550 G fuel x0 := by rw [run_eq]; kernel_rfl
def T551 : T :=
(oo (.fneg .f32) [1] <|
oo (.fneg .f32) [1] <|
oo (.fneg .f32) [1] <|
oo .mkagg [1, kF 0, kF 0] <|
oo .mkagg [2, kF 0, kF 0] <|
oo .mkagg [kF 0, 1, kF 0] <|
oo .mkagg [kF 0, 3, kF 0] <|
oo .mkagg [kF 0, kF 0, 1] <|
oo .mkagg [kF 0, kF 0, 4] <|
oo .mklst [5, 6, 7, 8, 9, 10] <|
oo .mklst [kI 0, kI 2, kI 4] <|
oo .mklst [kI 2, kI 1, kI 4] <|
oo .mklst [kI 1, kI 3, kI 4] <|
oo .mklst [kI 3, kI 0, kI 4] <|
oo .mklst [kI 2, kI 0, kI 5] <|
oo .mklst [kI 1, kI 2, kI 5] <|
oo .mklst [kI 3, kI 1, kI 5] <|
oo .mklst [kI 0, kI 3, kI 5] <|
oo .mklst [12, 13, 14, 15, 16, 17, 18, 19] <|
oo (.icm .eql) [0, kI 0] <|
.ite 21
 (.out 0 [11, 20])
 (cc 413 [11, 20] 1 <|
 oo .len [11] <|
 cc 151 [11, 20] 2 <|
 .join 5
  (.loop [24, kI 0]
   (oo .len [22] <|
   oo (.icm .lss) [27, 28] <|
   .ite 29
    (oo .idx [22, 27] <|
    oo .idx [22, 27] <|
    oo .idx [31, kI 0] <|
    oo .idx [31, kI 0] <|
    oo .idx [11, 33] <|
    oo .idx [11, 33] <|
    oo (.proj 0) [35] <|
    oo (.proj 1) [35] <|
    oo (.proj 2) [35] <|
    oo .idx [22, 27] <|
    oo .idx [22, 27] <|
    oo .idx [40, kI 1] <|
    oo .idx [40, kI 1] <|
    oo .idx [11, 42] <|
    oo .idx [11, 42] <|
    oo (.proj 0) [44] <|
    oo (.proj 1) [44] <|
    oo (.proj 2) [44] <|
    cc 30 [36, 37, 38, 45, 46, 47] 3 <|
    cc 31 [48, 49, 50, kF 1056964608] 3 <|
    cc 15 [51, 52, 53] 1 <|
    oo (.far .quo .f32) [1, 54] <|
    cc 31 [51, 52, 53, 55] 3 <|
    oo .mkagg [56, 57, 58] <|
    oo .mklst [59] <|
    oo .app [26, 60] <|
    oo (.iar .add .i64) [27, kI 1] <|
    .out 0 [61, 62])
    (.out 1 [26, 27, 27, 28, 29])))
 (oo .mklst [] <|
 .join 5
  (.loop [31, kI 0]
   (oo .len [20] <|
   oo (.icm .lss) [33, 34] <|
   .ite 35
    (oo .idx [20, 33] <|
    oo .idx [20, 33] <|
    oo .idx [37, kI 0] <|
    oo .idx [37, kI 0] <|
    oo .idx [37, kI 1] <|
    oo .idx [37, kI 1] <|
    cc 552 [22, 39, 41] 1 <|
    oo (.iar .add .i64) [23, 42] <|
    oo .idx [37, kI 1] <|
    oo .idx [37, kI 1] <|
    oo .idx [37, kI 2] <|
    oo .idx [37, kI 2] <|
    cc 552 [22, 45, 47] 1 <|
    oo (.iar .add .i64) [23, 48] <|
    oo .idx [37, kI 2] <|
    oo .idx [37, kI 2] <|
    oo .idx [37, kI 0] <|
    oo .idx [37, kI 0] <|
    cc 552 [22, 51, 53] 1 <|
    oo (.iar .add .i64) [23, 54] <|
    oo .idx [37, kI 0] <|
    oo .idx [37, kI 0] <|
    oo .mklst [57, 43, 55] <|
    oo .idx [37, kI 1] <|
    oo .idx [37, kI 1] <|
    oo .mklst [43, 60, 49] <|
    oo .idx [37, kI 2] <|
    oo .idx [37, kI 2] <|
    oo .mklst [55, 49, 63] <|
    oo .mklst [43, 49, 55] <|
    oo .mklst [58, 61, 64, 65] <|
    oo .app [32, 66] <|
    oo (.iar .add .i64) [33, kI 1] <|
    .out 0 [67, 68])
    (.out 1 [32, 33, 33, 34, 35])))
 (.out 0 [26, 32]))))
def T552 : T :=
(.join 4
 (.loop [kI 0]
  (oo .len [0] <|
  oo (.icm .lss) [3, 4] <|
  .ite 5
   (oo .idx [0, 3] <|
   oo .idx [6, kI 0] <|
   cc 453 [1, 2] 1 <|
   oo (.icm .eql) [7, 8] <|
   oT 9 .id [0] <|
   oT 9 .id [3] <|
   oT 9 .idx [10, 11] <|
   oT 9 .id [12] <|
   oT 9 .idx [13, kI 1] <|
   oT 9 .id [14] <|
   oT 9 .id [1] <|
   oT 9 .id [2] <|
   cT 9 210 [16, 17] 1 <|
   oT 9 (.icm .eql) [15, 18] <|
   oo .pick [9, 19, kN] <|
   .ite 20
    (.out 2 [3])
    (oo (.iar .add .i64) [3, kI 1] <|
    .out 0 [21]))
   (.out 1 [3, 3, 4, 5])))
(.out 0 [kI 0]))
def S552L0 (G : Told) (x0 : D) (x1 : D) (x2 : D) : List D → Option (Nat × List D) := fun e3 =>
   (gev none .len [x0]).bind fun x4 =>
   (gev none (.icm .lss) [e3.getD 0 .undef, x4]).bind fun x5 =>
   tif x5 (
    (gev none .idx [x0, e3.getD 0 .undef]).bind fun x6 =>
    (gev none .idx [x6, .int 0]).bind fun x7 =>
    (gcall G none 453 [x1, x2] 1).bind fun e8 =>
    (gev none (.icm .eql) [x7, e8.getD 0 .undef]).bind fun x9 =>
    (gev (some (x9, true)) .id [x0]).bind fun x10 =>
    (gev (some (x9, true)) .id [e3.getD 0 .undef]).bind fun x11 =>
    (gev (some (x9, true)) .idx [x10, x11]).bind fun x12 =>
    (gev (some (x9, true)) .id [x12]).bind fun x13 =>
    (gev (some (x9, true)) .idx [x13, .int 1]).bind fun x14 =>
    (gev (some (x9, true)) .id [x14]).bind fun x15 =>
    (gev (some (x9, true)) .id [x1]).bind fun x16 =>
    (gev (some (x9, true)) .id [x2]).bind fun x17 =>
    (gcall G (some (x9, true)) 210 [x16, x17] 1).bind fun e18 =>
    (gev (some (x9, true)) (.icm .eql) [x15, e18.getD 0 .undef]).bind fun x19 =>
    (gev none .pick [x9, x19, .bool false]).bind fun x20 =>
    tif x20 (
     some (2, [e3.getD 0 .undef])) (
     (gev none (.iar .add .i64) [e3.getD 0 .undef, .int 1]).bind fun x21 =>
     some (0, [x21]))) (
    some (1, [e3.getD 0 .undef, e3.getD 0 .undef, x4, x5]))
def S552 (G : Told) (fuel : Nat) (x0 x1 x2 : D) : Option (Nat × List D) :=
 tjoin 4 (
  iter (tbody 1 (S552L0 G x0 x1 x2)) fuel [.int 0]) fun _e3 =>
 some (0, [.int 0])
theorem eq552 {G fuel} (x0 x1 x2) : run G fuel T552 [x0, x1, x2] = S552 G fuel x0 x1 x2 := by rw [run_eq]; kernel_rfl
def fv0 : List V3 := [⟨0, 0, 0⟩, ⟨1065353216, 0, 0⟩, ⟨1073741824, 0, 0⟩, ⟨0, 1065353216, 0⟩, ⟨1065353216, 1065353216, 0⟩, ⟨1073741824, 1065353216, 0⟩, ⟨0, 1073741824, 0⟩, ⟨1065353216, 1073741824, 0⟩, ⟨1073741824, 1073741824, 0⟩]
def ft0 : List (List Int) := [[0, 1, 4], [0, 4, 3], [1, 2, 5], [1, 5, 4], [3, 4, 7], [3, 7, 6], [4, 5, 8], [4, 8, 7]]
def fv1 : List V3 := [⟨1073741824, 0, 0⟩, ⟨2147483648, 1073741824, 0⟩, ⟨3221225472, 2147483648, 0⟩, ⟨0, 3221225472, 0⟩, ⟨1073741824, 0, 1056964608⟩, ⟨2147483648, 1073741824, 1056964608⟩, ⟨3221225472, 2147483648, 1056964608⟩, ⟨0, 3221225472, 1056964608⟩, ⟨1073741824, 0, 1065353216⟩, ⟨2147483648, 1073741824, 1065353216⟩, ⟨3221225472, 2147483648, 1065353216⟩, ⟨0, 3221225472, 1065353216⟩]
def ft1 : List (List Int) := [[0, 1, 5], [0, 5, 4], [1, 2, 6], [1, 6, 5], [2, 3, 7], [2, 7, 6], [3, 0, 4], [3, 4, 7], [4, 5, 9], [4, 9, 8], [5, 6, 10], [5, 10, 9], [6, 7, 11], [6, 11, 10], [7, 4, 8], [7, 8, 11]]
def fv2 : List V3 := [⟨0, 0, 0⟩, ⟨1073741824, 0, 0⟩, ⟨0, 1073741824, 0⟩, ⟨1073741824, 1073741824, 0⟩, ⟨0, 0, 1073741824⟩, ⟨1073741824, 0, 1073741824⟩, ⟨0, 1073741824, 1073741824⟩, ⟨1073741824, 1073741824, 1073741824⟩]
def ft2 : List (List Int) := [[0, 2, 3], [0, 3, 1], [4, 5, 7], [4, 7, 6], [0, 1, 5], [0, 5, 4], [2, 6, 7], [2, 7, 3], [0, 4, 6], [0, 6, 2], [1, 3, 7], [1, 7, 5]]
def fv3 : List V3 := [⟨1073741824, 0, 0⟩, ⟨3221225472, 0, 0⟩, ⟨0, 1073741824, 0⟩, ⟨0, 3221225472, 0⟩, ⟨0, 0, 1073741824⟩, ⟨0, 0, 3221225472⟩]
def ft3 : List (List Int) := [[0, 2, 4], [2, 1, 4], [1, 3, 4], [3, 0, 4], [2, 0, 5], [1, 2, 5], [3, 1, 5], [0, 3, 5]]
def fv4 : List V3 := [⟨1073741824, 0, 0⟩, ⟨3221225472, 0, 0⟩, ⟨0, 1073741824, 0⟩, ⟨0, 3221225472, 0⟩, ⟨0, 0, 1073741824⟩, ⟨0, 0, 3221225472⟩, ⟨1068827891, 1068827891, 0⟩, ⟨1068827891, 3216311539, 0⟩, ⟨1068827891, 0, 1068827891⟩, ⟨1068827891, 0, 3216311539⟩, ⟨3216311539, 1068827891, 0⟩, ⟨3216311539, 3216311539, 0⟩, ⟨3216311539, 0, 1068827891⟩, ⟨3216311539, 0, 3216311539⟩, ⟨0, 1068827891, 1068827891⟩, ⟨0, 1068827891, 3216311539⟩, ⟨0, 3216311539, 1068827891⟩, ⟨0, 3216311539, 3216311539⟩]
def ft4 : List (List Int) := [[0, 6, 8], [6, 2, 14], [8, 14, 4], [6, 14, 8], [2, 10, 14], [10, 1, 12], [14, 12, 4], [10, 12, 14], [1, 11, 12], [11, 3, 16], [12, 16, 4], [11, 16, 12], [3, 7, 16], [7, 0, 8], [16, 8, 4], [7, 8, 16], [2, 6, 15], [6, 0, 9], [15, 9, 5], [6, 9, 15], [1, 10, 13], [10, 2, 15], [13, 15, 5], [10, 15, 13], [3, 11, 17], [11, 1, 13], [17, 13, 5], [11, 13, 17], [0, 7, 9], [7, 3, 17], [9, 17, 5], [7, 17, 9]]
def formV : Nat → List V3 | 0 => fv0 | 1 => fv1 | 2 => fv2 | 3 => fv3 | _ => fv4
def formT : Nat → List (List Int) | 0 => ft0 | 1 => ft1 | 2 => ft2 | 3 => ft3 | _ => ft4
open Classical in
noncomputable def F545 (ds : List D) : Option (List D) := if ds = [.int 2, .int 2, .flt 1065353216] then some [vl fv0, tl ft0] else none
open Classical in
noncomputable def F546 (ds : List D) : Option (List D) := if ds = [.int 4, .int 2, .flt 1073741824, .flt 1056964608] then some [vl fv1, tl ft1] else none
open Classical in
noncomputable def F549 (ds : List D) : Option (List D) := if ds = [.flt 1073741824] then some [vl fv2, tl ft2, .bool true] else none
open Classical in
noncomputable def F551 (ds : List D) : Option (List D) := if ds = [.int 0, .flt 1073741824] then some [vl fv3, tl ft3] else if ds = [.int 1, .flt 1073741824] then some [vl fv4, tl ft4] else none
def F544 : List D → Option (List D)
 | [.int k] => if 0 ≤ k ∧ k ≤ 4 then some [vl (formV k.toNat), tl (formT k.toNat)] else none
 | _ => none
def Gr : Told | 474 => F474 | _ => fun _ => none
def Gb : Told | 550 => F550 | _ => fun _ => none
def Gz : Told := fun _ _ => none
set_option maxRecDepth 100000
theorem run545 {G : Told} : Runs G F545 T545 := by
 intro ds rs h
 unfold F545 at h
 split at h
 case isFalse => cases h
 rename_i hd
 subst hd
 simp only [Option.some.injEq] at h
 subst h
 exact ⟨100, run_le (G := Gz) (fun _ _ _ h => by cases h) (by kernel_rfl)⟩
theorem run546 {G : Told} (g474 : G 474 = F474) : Runs G F546 T546 := by
 intro ds rs h
 unfold F546 at h
 split at h
 case isFalse => cases h
 rename_i hd
 subst hd
 simp only [Option.some.injEq] at h
 subst h
 refine ⟨100, run_le (G := Gr) (fun k ds rs h => ?_) (by kernel_rfl)⟩
 unfold Gr at h
 split at h
 ·rw [g474]; exact h
 ·cases h
theorem run549 {G : Told} (g550 : G 550 = F550) : Runs G F549 T549 := by
 intro ds rs h
 unfold F549 at h
 split at h
 case isFalse => cases h
 rename_i hd
 subst hd
 simp only [Option.some.injEq] at h
 subst h
 refine ⟨100, run_le (G := Gb) (fun k ds rs h => ?_) (by kernel_rfl)⟩
 unfold Gb at h
 split at h
 ·rw [g550]; exact h
 ·cases h
theorem run550 {G : Told} (g1 : G 1 = F1) : Runs G F550 T550 := by
 intro ds rs h
 unfold F550 at h
 split at h
 case h_2 => cases h
 rename_i x
 simp only [Option.some.injEq] at h
 subst h
 refine ⟨0, ?_⟩
 rw [eq550]
 unfold S550 overP
 have c1 : gcall G none 1 [.flt x] 1 = some [.bool (finP x)] := gcall_on g1 rfl rfl rfl
 refine st_some c1 ?_
 cases finP x with
 | true =>
  refine st_some (d := .flt x) rfl ?_;refine st_some (d := .bool (fgt .f32 x 0)) rfl ?_;refine st_some (d := .bool (fgt .f32 x 0)) rfl ?_;rfl
 | false =>
  refine st_some (d := .undef) rfl ?_;refine st_some (d := .undef) rfl ?_;refine st_some (d := .bool false) rfl ?_;rfl
theorem run551 {G : Told} (g15 : G 15 = F15) (g30 : G 30 = F30) (g31 : G 31 = F31) (g151 : G 151 = F151) (g413 : G 413 = F413) (g552 : G 552 = F552) : Runs G F551 T551 := by
 intro ds rs h
 have hle : ∀ k ds rs, (match k with | 413 => C413 | 151 => C151 | 30 => F30 | 31 => F31 | 15 => F15 | 552 => F552 | _ => fun _ => none : List D → Option (List D)) ds = some rs → G k ds = some rs := by
  intro k ds rs h;split at h
  ·rw [g413]; exact C413_le h
  ·rw [g151]; exact C151_le h
  ·rw [g30]; exact h
  ·rw [g31]; exact h
  ·rw [g15]; exact h
  ·rw [g552]; exact h
  ·cases h
 unfold F551 at h
 split at h
 ·rename_i hd
  subst hd;simp only [Option.some.injEq] at h;subst h;exact ⟨100, run_le hle (by kernel_rfl)⟩
 ·split at h
  case isFalse => cases h
  rename_i hd;subst hd;simp only [Option.some.injEq] at h;subst h;exact ⟨100, run_le hle (by kernel_rfl)⟩
theorem run544 {G : Told} (g545 : G 545 = F545) (g546 : G 546 = F546) (g549 : G 549 = F549) (g551 : G 551 = F551) : Runs G F544 T544 := by
 intro ds rs h
 unfold F544 at h
 split at h
 case h_2 => cases h
 rename_i k
 split at h
 case isFalse => cases h
 rename_i hk
 simp only [Option.some.injEq] at h
 subst h
 have c0 : gcall G none 545 [.int 2, .int 2, .flt 1065353216] 2 = some [vl fv0, tl ft0] := gcall_on g545 rfl (if_pos rfl) rfl
 have c1 : gcall G none 546 [.int 4, .int 2, .flt 1073741824, .flt 1056964608] 2 = some [vl fv1, tl ft1] := gcall_on g546 rfl (if_pos rfl) rfl
 have c2 : gcall G none 549 [.flt 1073741824] 3 = some [vl fv2, tl ft2, .bool true] := gcall_on g549 rfl (if_pos rfl) rfl
 have c3 : gcall G none 551 [.int 0, .flt 1073741824] 2 = some [vl fv3, tl ft3] := gcall_on g551 rfl (if_pos rfl) rfl
 have c4 : gcall G none 551 [.int 1, .flt 1073741824] 2 = some [vl fv4, tl ft4] := gcall_on g551 rfl (by unfold F551; rw [if_neg (by simp), if_pos rfl]) rfl
 refine ⟨0, ?_⟩
 rw [eq544]
 unfold S544
 obtain rfl | rfl | rfl | rfl | rfl : k = 0 ∨ k = 1 ∨ k = 2 ∨ k = 3 ∨ k = 4 := by omega
 ·refine st_some (d := .bool true) rfl ?_
  refine st_join (ds := [vl fv0, tl ft0]) ?_ rfl rfl;refine st_ift ?_;refine st_some c0 ?_;rfl
 ·refine st_some (d := .bool false) rfl ?_
  refine st_join (ds := [vl fv1, tl ft1]) ?_ rfl rfl;refine st_iff ?_;refine st_some (d := .bool true) rfl ?_;refine st_join (ds := [vl fv1, tl ft1]) ?_ rfl rfl;refine st_ift ?_;refine st_some c1 ?_;rfl
 ·refine st_some (d := .bool false) rfl ?_
  refine st_join (ds := [vl fv2, tl ft2]) ?_ rfl rfl;refine st_iff ?_;refine st_some (d := .bool false) rfl ?_;refine st_join (ds := [vl fv2, tl ft2]) ?_ rfl rfl;refine st_iff ?_;refine st_some (d := .bool true) rfl ?_;refine st_join (ds := [vl fv2, tl ft2]) ?_ rfl rfl;refine st_ift ?_;refine st_some c2 ?_;rfl
 ·refine st_some (d := .bool false) rfl ?_
  refine st_join (ds := [vl fv3, tl ft3]) ?_ rfl rfl;refine st_iff ?_;refine st_some (d := .bool false) rfl ?_;refine st_join (ds := [vl fv3, tl ft3]) ?_ rfl rfl;refine st_iff ?_;refine st_some (d := .bool false) rfl ?_;refine st_join (ds := [vl fv3, tl ft3]) ?_ rfl rfl;refine st_iff ?_;refine st_some (d := .bool true) rfl ?_;refine st_join (ds := [vl fv3, tl ft3]) ?_ rfl rfl;refine st_ift ?_;refine st_some c3 ?_;rfl
 ·refine st_some (d := .bool false) rfl ?_
  refine st_join (ds := [vl fv4, tl ft4]) ?_ rfl rfl;refine st_iff ?_;refine st_some (d := .bool false) rfl ?_;refine st_join (ds := [vl fv4, tl ft4]) ?_ rfl rfl;refine st_iff ?_;refine st_some (d := .bool false) rfl ?_;refine st_join (ds := [vl fv4, tl ft4]) ?_ rfl rfl;refine st_iff ?_;refine st_some (d := .bool false) rfl ?_;refine st_join (ds := [vl fv4, tl ft4]) ?_ rfl rfl;refine st_iff ?_;refine st_some c4 ?_;rfl
end Vs
