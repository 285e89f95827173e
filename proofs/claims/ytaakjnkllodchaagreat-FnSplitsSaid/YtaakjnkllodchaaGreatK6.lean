/-
  Meshes: lists of vectors beside lists of lists of whole numbers; what laws do with them; copies; which are valid.
-/
import Derived.Test.YtaakjnkllodchaaGreatK4
import Derived.Test.YtaakjnkllodchaaGreatE
set_option maxHeartbeats 4000000
namespace Vs
open Go
def il (l : List Int) : D := .lst (l.map .int)
def tl (l : List (List Int)) : D := .lst (l.map il)
def unint : D → Int | .int n => n | _ => 0
def unil : D → List Int | .lst l => l.map unint | _ => []
theorem unint_int (l : List Int) : (l.map D.int).map unint = l := by
 rw [List.map_map]
 exact List.map_id'' (fun _ => rfl) l
theorem unil_il (l : List Int) : unil (il l) = l := by simp only [unil, il, unint_int]
theorem untl (l : List (List Int)) : (l.map il).map unil = l := by
 rw [List.map_map]
 exact List.map_id'' unil_il l
open Classical in
noncomputable def dV : D → Option (List V3)
 | .lst a => if a = (a.map unvec).map vec then some (a.map unvec) else none
 | _ => none
open Classical in
noncomputable def dI : D → Option (List Int)
 | .lst a => if a = (a.map unint).map .int then some (a.map unint) else none
 | _ => none
open Classical in
noncomputable def dT : D → Option (List (List Int))
 | .lst a => if a = (a.map unil).map il then some (a.map unil) else none
 | _ => none
theorem dV_vl (l : List V3) : dV (vl l) = some l := by
 simp only [dV, vl]
 rw [if_pos (by rw [unvl]), unvl]
theorem dI_il (l : List Int) : dI (il l) = some l := by
 simp only [dI, il]
 rw [if_pos (by rw [unint_int]), unint_int]
theorem dT_tl (l : List (List Int)) : dT (tl l) = some l := by
 simp only [dT, tl]
 rw [if_pos (by rw [untl]), untl]
theorem dV_inv {d : D} {l : List V3} (h : dV d = some l) : d = vl l := by
 unfold dV at h
 split at h
 ·split at h
  ·rename_i hc
   cases h
   rw [vl, ← hc]
  ·cases h
 ·cases h
theorem dI_inv {d : D} {l : List Int} (h : dI d = some l) : d = il l := by
 unfold dI at h
 split at h
 ·split at h
  ·rename_i hc
   cases h
   rw [il, ← hc]
  ·cases h
 ·cases h
theorem dT_inv {d : D} {l : List (List Int)} (h : dT d = some l) : d = tl l := by
 unfold dT at h
 split at h
 ·split at h
  ·rename_i hc
   cases h
   rw [tl, ← hc]
  ·cases h
 ·cases h
theorem idx_il {l : List Int} {i : Nat} (h : i < l.length) : gev none .idx [il l, .int i] = some (.int l[i]) := by
 have h2 : (i : Int) < ((l.map D.int).length : Int) := by simp; omega
 simp only [gev, gok, if_true, Prim.ev, il]
 rw [if_pos ⟨by omega, h2⟩]
 simp [h]
theorem len_il {l : List Int} : gev none .len [il l] = some (.int (l.length : Int)) := by simp [gev, gok, Prim.ev, il]
theorem app_il {l m : List Int} (h : l.length + m.length ≤ 1048576) : gev none .app [il l, il m] = some (il (l ++ m)) := by
 simp only [gev, gok, if_true, Prim.ev, il]
 rw [if_pos (by simp; omega)]
 simp
theorem idx_tl {l : List (List Int)} {i : Nat} (h : i < l.length) : gev none .idx [tl l, .int i] = some (il l[i]) := by
 have h2 : (i : Int) < ((l.map il).length : Int) := by simp; omega
 simp only [gev, gok, if_true, Prim.ev, tl]
 rw [if_pos ⟨by omega, h2⟩]
 simp [h]
theorem set_tl {l : List (List Int)} {i : Nat} {v : List Int} (h : i < l.length) : gev none .set [tl l, .int i, il v] = some (tl (l.set i v)) := by
 have h2 : (i : Int) < ((l.map il).length : Int) := by simp; omega
 simp only [gev, gok, if_true, Prim.ev, tl]
 rw [if_pos ⟨by omega, h2⟩]
 simp [List.map_set]
theorem len_tl {l : List (List Int)} : gev none .len [tl l] = some (.int (l.length : Int)) := by simp [gev, gok, Prim.ev, tl]
theorem app_tl {l : List (List Int)} {v : List Int} (h : l.length < 1048576) : gev none .app [tl l, .lst [il v]] = some (tl (l ++ [v])) := by
 simp only [gev, gok, if_true, Prim.ev, tl]
 rw [if_pos (by simp; omega)]
 simp
theorem app_vls {l m : List V3} (h : l.length + m.length ≤ 1048576) : gev none .app [vl l, vl m] = some (vl (l ++ m)) := by
 simp only [gev, gok, if_true, Prim.ev, vl]
 rw [if_pos (by simp; omega)]
 simp
theorem iter_to {body : List D → Option (Nat × List D)} (s : Nat → List D) {n f l : Nat} {ds : List D} (hf : n < f) (hs : ∀ i, i < n → body (s i) = some (0, s (i + 1))) (he : body (s n) = some (l + 1, ds)) :
  iter body f (s 0) = some (l, ds) :=
 iter_mono (fun _ _ h => h) (iter_upto s hs he) hf
theorem iter_bad {body : List D → Option (Nat × List D)} (s : Nat → List D) (good : Nat → Prop) {n f l : Nat} {ds : List D} (hf : n ≤ f) (hs : ∀ i, i < n → good i → body (s i) = some (0, s (i + 1)))
  (hb : ∀ i, i < n → ¬ good i → body (s i) = some (l + 1, ds)) (hx : ∃ i, i < n ∧ ¬ good i) : iter body f (s 0) = some (l, ds) := by
 have key : ∀ (k i : Nat), i + k = n → (∃ j, i ≤ j ∧ j < n ∧ ¬ good j) → iter body (k + (f - n)) (s i) = some (l, ds) := by
  intro k
  induction k with
  | zero =>
   intro i hi ⟨j, h1, h2, _⟩;omega
  | succ k ih =>
   intro i hi ⟨j, h1, h2, h3⟩
   by_cases hg : good i
   ·rw [show k + 1 + (f - n) = (k + (f - n)) + 1 from by omega]
    refine iter_go (hs i (by omega) hg) (ih (i + 1) (by omega) ⟨j, ?_, h2, h3⟩)
    rcases Nat.lt_or_ge i j with h | h
    ·exact h
    ·have : i = j := by omega
     subst this;exact absurd hg h3
   ·rw [show k + 1 + (f - n) = (k + (f - n)) + 1 from by omega]
    exact iter_end (hb i (by omega) hg) rfl
 obtain ⟨j, h1, h2⟩ := hx
 have := key n 0 (by omega) ⟨j, by omega, h1, h2⟩
 rwa [show n + (f - n) = f from by omega] at this
def totL (ts : List (List Int)) : Nat := (ts.map List.length).sum
def szM (vs : List V3) (ts : List (List Int)) : Nat := vs.length + ts.length + totL ts
theorem totL_take (ts : List (List Int)) (i : Nat) (h : i < ts.length) : totL (ts.take (i + 1)) = totL (ts.take i) + ts[i].length := by
 unfold totL
 rw [take_step h, List.map_append, List.sum_append]
 simp
theorem totL_le (ts : List (List Int)) (i : Nat) : totL (ts.take i) ≤ totL ts := by
 have : totL ts = totL (ts.take i) + totL (ts.drop i) := by rw [totL, totL, totL, ← List.sum_append, ← List.map_append, List.take_append_drop]
 omega
theorem len_le_totL {ts : List (List Int)} {i : Nat} (h : i < ts.length) : ts[i].length ≤ totL ts := by
 have h1 := totL_take ts i h
 have h2 := totL_le ts (i + 1)
 omega
noncomputable def F143 : List D → Option (List D)
 | [a] => (dI a).bind fun l => if l.length ≤ 1048576 then some [il l] else none
 | _ => none
noncomputable def F145 : List D → Option (List D)
 | [a, b] => (dV a).bind fun vs => (dT b).bind fun ts => if szM vs ts ≤ 1048576 then some [vl vs, tl ts] else none
 | _ => none
def inr (n : Int) (p : Int) : Bool := decide (0 ≤ p) && decide (p ≤ n - 1)
def triP (n : Int) : List Int → Bool
 | [a, b, c] => !(a == b) && !(b == c) && !(a == c) && [a, b, c].all (inr n)
 | _ => false
def validP (n : Nat) (ts : List (List Int)) : Bool := decide (n ≤ 64) && decide (ts.length ≤ 128) && ts.all (triP n)
noncomputable def F150 : List D → Option (List D)
 | [a, b] => (dV a).bind fun vs => (dT b).bind fun ts => if szM vs ts ≤ 1048576 then some [.bool (validP vs.length ts)] else none
 | _ => none
noncomputable def F151 : List D → Option (List D) := F145
theorem F145_m {vs : List V3} {ts : List (List Int)} (h : szM vs ts ≤ 1048576) : F145 [vl vs, tl ts] = some [vl vs, tl ts] := by simp [F145, dV_vl, dT_tl, h]
theorem F150_m {vs : List V3} {ts : List (List Int)} (h : szM vs ts ≤ 1048576) : F150 [vl vs, tl ts] = some [.bool (validP vs.length ts)] := by simp [F150, dV_vl, dT_tl, h]
def T143s : T :=
(oo .mklst [] <|
oo .app [1, 0] <|
.out 0 [2])
def S143s (_G : Told) (_fuel : Nat) (x0 : D) : Option (Nat × List D) :=
 (gev none .mklst []).bind fun x1 =>
 (gev none .app [x1, x0]).bind fun x2 =>
 some (0, [x2])
theorem eq143s {G fuel} (x0) : run G fuel T143s [x0] = S143s G fuel x0 := by rw [run_eq]; kernel_rfl
def T150 : T :=
(oo .len [0] <|
oo (.icm .gtr) [2, kI 64] <|
oN 3 .id [1] <|
oN 3 .len [4] <|
oN 3 (.icm .gtr) [5, kI 128] <|
oo .pick [3, kT, 6] <|
.ite 7
 (.out 0 [kN])
 (oo .len [1] <|
 .join 2
  (.loop [kI 0]
   (oo (.icm .lss) [9, 8] <|
   .ite 10
    (oo .idx [1, 9] <|
    oo .len [11] <|
    oo (.icm .neq) [12, kI 3] <|
    oN 13 .id [11] <|
    oN 13 .idx [14, kI 0] <|
    oN 13 .id [15] <|
    oN 13 .id [11] <|
    oN 13 .idx [17, kI 1] <|
    oN 13 .id [18] <|
    oN 13 (.icm .eql) [16, 19] <|
    oo .pick [13, kT, 20] <|
    oN 21 .id [11] <|
    oN 21 .idx [22, kI 1] <|
    oN 21 .id [23] <|
    oN 21 .id [11] <|
    oN 21 .idx [25, kI 2] <|
    oN 21 .id [26] <|
    oN 21 (.icm .eql) [24, 27] <|
    oo .pick [21, kT, 28] <|
    oN 29 .id [11] <|
    oN 29 .idx [30, kI 0] <|
    oN 29 .id [31] <|
    oN 29 .id [11] <|
    oN 29 .idx [33, kI 2] <|
    oN 29 .id [34] <|
    oN 29 (.icm .eql) [32, 35] <|
    oo .pick [29, kT, 36] <|
    .ite 37
     (.out 2 [kN])
     (oo .len [11] <|
     .join 2
      (.loop [kI 0]
       (oo (.icm .lss) [39, 38] <|
       .ite 40
        (oo .idx [11, 39] <|
        oo (.iar .sub .i64) [2, kI 1] <|
        cc 19 [41, kI 0, 42] 1 <|
        oo .bnot [43] <|
        .ite 44
         (.out 4 [kN])
         (oo (.iar .add .i64) [39, kI 1] <|
         .out 0 [45]))
        (.out 1 [39, 40])))
     (oo (.iar .add .i64) [9, kI 1] <|
     .out 0 [41])))
    (.out 1 [9, 10])))
 (.out 0 [kT])))
def S150L0 (G : Told) (x2 : D) (x11 : D) (x38 : D) : List D → Option (Nat × List D) := fun e39 =>
        (gev none (.icm .lss) [e39.getD 0 .undef, x38]).bind fun x40 =>
        tif x40 (
         (gev none .idx [x11, e39.getD 0 .undef]).bind fun x41 =>
         (gev none (.iar .sub .i64) [x2, .int 1]).bind fun x42 =>
         (gcall G none 19 [x41, .int 0, x42] 1).bind fun e43 =>
         (gev none .bnot [e43.getD 0 .undef]).bind fun x44 =>
         tif x44 (
          some (4, [.bool false])) (
          (gev none (.iar .add .i64) [e39.getD 0 .undef, .int 1]).bind fun x45 =>
          some (0, [x45]))) (
         some (1, [e39.getD 0 .undef, x40]))
def S150L1 (G : Told) (fuel : Nat) (x1 : D) (x2 : D) (x8 : D) : List D → Option (Nat × List D) := fun e9 =>
    (gev none (.icm .lss) [e9.getD 0 .undef, x8]).bind fun x10 =>
    tif x10 (
     (gev none .idx [x1, e9.getD 0 .undef]).bind fun x11 =>
     (gev none .len [x11]).bind fun x12 =>
     (gev none (.icm .neq) [x12, .int 3]).bind fun x13 =>
     (gev (some (x13, false)) .id [x11]).bind fun x14 =>
     (gev (some (x13, false)) .idx [x14, .int 0]).bind fun x15 =>
     (gev (some (x13, false)) .id [x15]).bind fun x16 =>
     (gev (some (x13, false)) .id [x11]).bind fun x17 =>
     (gev (some (x13, false)) .idx [x17, .int 1]).bind fun x18 =>
     (gev (some (x13, false)) .id [x18]).bind fun x19 =>
     (gev (some (x13, false)) (.icm .eql) [x16, x19]).bind fun x20 =>
     (gev none .pick [x13, .bool true, x20]).bind fun x21 =>
     (gev (some (x21, false)) .id [x11]).bind fun x22 =>
     (gev (some (x21, false)) .idx [x22, .int 1]).bind fun x23 =>
     (gev (some (x21, false)) .id [x23]).bind fun x24 =>
     (gev (some (x21, false)) .id [x11]).bind fun x25 =>
     (gev (some (x21, false)) .idx [x25, .int 2]).bind fun x26 =>
     (gev (some (x21, false)) .id [x26]).bind fun x27 =>
     (gev (some (x21, false)) (.icm .eql) [x24, x27]).bind fun x28 =>
     (gev none .pick [x21, .bool true, x28]).bind fun x29 =>
     (gev (some (x29, false)) .id [x11]).bind fun x30 =>
     (gev (some (x29, false)) .idx [x30, .int 0]).bind fun x31 =>
     (gev (some (x29, false)) .id [x31]).bind fun x32 =>
     (gev (some (x29, false)) .id [x11]).bind fun x33 =>
     (gev (some (x29, false)) .idx [x33, .int 2]).bind fun x34 =>
     (gev (some (x29, false)) .id [x34]).bind fun x35 =>
     (gev (some (x29, false)) (.icm .eql) [x32, x35]).bind fun x36 =>
     (gev none .pick [x29, .bool true, x36]).bind fun x37 =>
     tif x37 (
      some (2, [.bool false])) (
      (gev none .len [x11]).bind fun x38 =>
      tjoin 2 (
       iter (tbody 1 (S150L0 G x2 x11 x38)) fuel [.int 0]) fun _e39 =>
      (gev none (.iar .add .i64) [e9.getD 0 .undef, .int 1]).bind fun x41 =>
      some (0, [x41]))) (
     some (1, [e9.getD 0 .undef, x10]))
def S150 (G : Told) (fuel : Nat) (x0 x1 : D) : Option (Nat × List D) :=
 (gev none .len [x0]).bind fun x2 =>
 (gev none (.icm .gtr) [x2, .int 64]).bind fun x3 =>
 (gev (some (x3, false)) .id [x1]).bind fun x4 =>
 (gev (some (x3, false)) .len [x4]).bind fun x5 =>
 (gev (some (x3, false)) (.icm .gtr) [x5, .int 128]).bind fun x6 =>
 (gev none .pick [x3, .bool true, x6]).bind fun x7 =>
 tif x7 (
  some (0, [.bool false])) (
  (gev none .len [x1]).bind fun x8 =>
  tjoin 2 (
   iter (tbody 1 (S150L1 G fuel x1 x2 x8)) fuel [.int 0]) fun _e9 =>
  some (0, [.bool true]))
theorem eq150 {G fuel} (x0 x1) : run G fuel T150 [x0, x1] = S150 G fuel x0 x1 := by rw [run_eq]; kernel_rfl
def T151 : T :=
(oo .mklst [] <|
oo .app [2, 0] <|
oo .len [1] <|
.join 3
 (.loop [kL, (.c (.int 0))]
  (oo (.icm .lss) [6, 4] <|
  .ite 7
   (oo .idx [1, 6] <|
   oo .mklst [] <|
   oo .app [9, 8] <|
   oo .mklst [10] <|
   oo .app [5, 11] <|
   oo (.iar .add .i64) [6, kI 1] <|
   .out 0 [12, 13])
   (.out 1 [5, 6, 7])))
(.out 0 [3, 5]))
def S151L0 (_G : Told) (x1 : D) (x4 : D) : List D → Option (Nat × List D) := fun e5 =>
   (gev none (.icm .lss) [e5.getD 1 .undef, x4]).bind fun x7 =>
   tif x7 (
    (gev none .idx [x1, e5.getD 1 .undef]).bind fun x8 =>
    (gev none .mklst []).bind fun x9 =>
    (gev none .app [x9, x8]).bind fun x10 =>
    (gev none .mklst [x10]).bind fun x11 =>
    (gev none .app [e5.getD 0 .undef, x11]).bind fun x12 =>
    (gev none (.iar .add .i64) [e5.getD 1 .undef, .int 1]).bind fun x13 =>
    some (0, [x12, x13])) (
    some (1, [e5.getD 0 .undef, e5.getD 1 .undef, x7]))
def S151 (G : Told) (fuel : Nat) (x0 x1 : D) : Option (Nat × List D) :=
 (gev none .mklst []).bind fun x2 =>
 (gev none .app [x2, x0]).bind fun x3 =>
 (gev none .len [x1]).bind fun x4 =>
 tjoin 3 (
  iter (tbody 2 (S151L0 G x1 x4)) fuel [(.lst []), (.int 0)]) fun e5 =>
 some (0, [x3, e5.getD 0 .undef])
theorem eq151 {G fuel} (x0 x1) : run G fuel T151 [x0, x1] = S151 G fuel x0 x1 := by rw [run_eq]; kernel_rfl
def T151s : T :=
(oo .mklst [] <|
oo .app [2, 0] <|
oo .mklst [] <|
.join 5
 (.loop [4, kI 0]
  (oo .len [1] <|
  oo (.icm .lss) [6, 7] <|
  .ite 8
   (oo .idx [1, 6] <|
   cc 143 [9] 1 <|
   oo .mklst [10] <|
   oo .app [5, 11] <|
   oo (.iar .add .i64) [6, kI 1] <|
   .out 0 [12, 13])
   (.out 1 [5, 6, 6, 7, 8])))
(.out 0 [3, 5]))
def S151sL0 (G : Told) (x1 : D) : List D → Option (Nat × List D) := fun e5 =>
   (gev none .len [x1]).bind fun x7 =>
   (gev none (.icm .lss) [e5.getD 1 .undef, x7]).bind fun x8 =>
   tif x8 (
    (gev none .idx [x1, e5.getD 1 .undef]).bind fun x9 =>
    (gcall G none 143 [x9] 1).bind fun e10 =>
    (gev none .mklst [e10.getD 0 .undef]).bind fun x11 =>
    (gev none .app [e5.getD 0 .undef, x11]).bind fun x12 =>
    (gev none (.iar .add .i64) [e5.getD 1 .undef, .int 1]).bind fun x13 =>
    some (0, [x12, x13])) (
    some (1, [e5.getD 0 .undef, e5.getD 1 .undef, e5.getD 1 .undef, x7, x8]))
def S151s (G : Told) (fuel : Nat) (x0 x1 : D) : Option (Nat × List D) :=
 (gev none .mklst []).bind fun x2 =>
 (gev none .app [x2, x0]).bind fun x3 =>
 (gev none .mklst []).bind fun x4 =>
 tjoin 5 (
  iter (tbody 2 (S151sL0 G x1)) fuel [x4, .int 0]) fun e5 =>
 some (0, [x3, e5.getD 0 .undef])
theorem eq151s {G fuel} (x0 x1) : run G fuel T151s [x0, x1] = S151s G fuel x0 x1 := by rw [run_eq]; kernel_rfl
attribute [local irreducible] tif tjoin IntKind.wrap feq fadd fmul fsub fdiv fgt i2f wide vl il tl totL szM inr triP validP

theorem run143s {G : Told} : Runs G F143 T143s := by
 intro ds rs h
 unfold F143 at h
 split at h
 case h_2 => cases h
 rename_i a
 obtain ⟨l, ha, h⟩ := Option.bind_eq_some_iff.1 h
 rw [dI_inv ha]
 split at h
 case isFalse => cases h
 rename_i hc
 simp only [Option.some.injEq] at h
 subst h
 refine ⟨0, ?_⟩
 rw [eq143s]
 unfold S143s
 have e0 : il [] = .lst [] := by unfold il; rfl
 have ha := app_il (l := []) (m := l) (by simpa using hc)
 rw [e0] at ha
 repeat' first
  | ((with_reducible apply st_some); exact ha)
  | ((with_reducible apply st_some); exact rfl)
  | exact rfl
end Vs
