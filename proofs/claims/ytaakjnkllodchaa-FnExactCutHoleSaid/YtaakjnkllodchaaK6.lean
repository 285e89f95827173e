/-
  Meshes: lists of vectors beside lists of lists of whole numbers; what laws do with them; copies; which are valid.
-/
import Derived.Test.YtaakjnkllodchaaK5
import Derived.Test.YtaakjnkllodchaaE
set_option maxHeartbeats 4000000
namespace Vs
open Go
def il (l : List Int) : D := .lst (l.map .int)
def tl (l : List (List Int)) : D := .lst (l.map il)
def unint : D → Int | .int n => n | _ => 0
def unil : D → List Int | .lst l => l.map unint | _ => []
theorem unint_int (l : List Int) : (l.map D.int).map unint = l := by
 rw [List.map_map]
 exact List.map_id'' (fun _ => rfl) l
theorem unil_il (l : List Int) : unil (il l) = l := by simp only [unil, il, unint_int]
theorem untl (l : List (List Int)) : (l.map il).map unil = l := by
 rw [List.map_map]
 exact List.map_id'' unil_il l
open Classical in
noncomputable def dV : D → Option (List V3)
 | .lst a => if a = (a.map unvec).map vec then some (a.map unvec) else none
 | _ => none
open Classical in
noncomputable def dI : D → Option (List Int)
 | .lst a => if a = (a.map unint).map .int then some (a.map unint) else none
 | _ => none
open Classical in
noncomputable def dT : D → Option (List (List Int))
 | .lst a => if a = (a.map unil).map il then some (a.map unil) else none
 | _ => none
theorem dV_vl (l : List V3) : dV (vl l) = some l := by
 simp only [dV, vl]
 rw [if_pos (by rw [unvl]), unvl]
theorem dI_il (l : List Int) : dI (il l) = some l := by
 simp only [dI, il]
 rw [if_pos (by rw [unint_int]), unint_int]
theorem dT_tl (l : List (List Int)) : dT (tl l) = some l := by
 simp only [dT, tl]
 rw [if_pos (by rw [untl]), untl]
theorem dV_inv {d : D} {l : List V3} (h : dV d = some l) : d = vl l := by
 unfold dV at h
 split at h
 ·split at h
  ·rename_i hc
   cases h
   rw [vl, ← hc]
  ·cases h
 ·cases h
theorem dI_inv {d : D} {l : List Int} (h : dI d = some l) : d = il l := by
 unfold dI at h
 split at h
 ·split at h
  ·rename_i hc
   cases h
   rw [il, ← hc]
  ·cases h
 ·cases h
theorem dT_inv {d : D} {l : List (List Int)} (h : dT d = some l) : d = tl l := by
 unfold dT at h
 split at h
 ·split at h
  ·rename_i hc
   cases h
   rw [tl, ← hc]
  ·cases h
 ·cases h
theorem idx_il {l : List Int} {i : Nat} (h : i < l.length) : gev none .idx [il l, .int i] = some (.int l[i]) := by
 have h2 : (i : Int) < ((l.map D.int).length : Int) := by simp; omega
 simp only [gev, gok, if_true, Prim.ev, il]
 rw [if_pos ⟨by omega, h2⟩]
 simp [h]
theorem set_il {l : List Int} {i : Nat} {v : Int} (h : i < l.length) : gev none .set [il l, .int i, .int v] = some (il (l.set i v)) := by
 have h2 : (i : Int) < ((l.map D.int).length : Int) := by simp; omega
 simp only [gev, gok, if_true, Prim.ev, il]
 rw [if_pos ⟨by omega, h2⟩]
 simp [List.map_set]
theorem len_il {l : List Int} : gev none .len [il l] = some (.int (l.length : Int)) := by simp [gev, gok, Prim.ev, il]
theorem app_il {l m : List Int} (h : l.length + m.length ≤ 1048576) : gev none .app [il l, il m] = some (il (l ++ m)) := by
 simp only [gev, gok, if_true, Prim.ev, il]
 rw [if_pos (by simp; omega)]
 simp
theorem idx_tl {l : List (List Int)} {i : Nat} (h : i < l.length) : gev none .idx [tl l, .int i] = some (il l[i]) := by
 have h2 : (i : Int) < ((l.map il).length : Int) := by simp; omega
 simp only [gev, gok, if_true, Prim.ev, tl]
 rw [if_pos ⟨by omega, h2⟩]
 simp [h]
theorem set_tl {l : List (List Int)} {i : Nat} {v : List Int} (h : i < l.length) : gev none .set [tl l, .int i, il v] = some (tl (l.set i v)) := by
 have h2 : (i : Int) < ((l.map il).length : Int) := by simp; omega
 simp only [gev, gok, if_true, Prim.ev, tl]
 rw [if_pos ⟨by omega, h2⟩]
 simp [List.map_set]
theorem len_tl {l : List (List Int)} : gev none .len [tl l] = some (.int (l.length : Int)) := by simp [gev, gok, Prim.ev, tl]
theorem app_tl {l : List (List Int)} {v : List Int} (h : l.length < 1048576) : gev none .app [tl l, .lst [il v]] = some (tl (l ++ [v])) := by
 simp only [gev, gok, if_true, Prim.ev, tl]
 rw [if_pos (by simp; omega)]
 simp
theorem app_vls {l m : List V3} (h : l.length + m.length ≤ 1048576) : gev none .app [vl l, vl m] = some (vl (l ++ m)) := by
 simp only [gev, gok, if_true, Prim.ev, vl]
 rw [if_pos (by simp; omega)]
 simp
theorem iter_to {body : List D → Option (Nat × List D)} (s : Nat → List D) {n f l : Nat} {ds : List D} (hf : n < f) (hs : ∀ i, i < n → body (s i) = some (0, s (i + 1))) (he : body (s n) = some (l + 1, ds)) :
  iter body f (s 0) = some (l, ds) :=
 iter_mono (fun _ _ h => h) (iter_upto s hs he) hf
theorem iter_bad {body : List D → Option (Nat × List D)} (s : Nat → List D) (good : Nat → Prop) {n f l : Nat} {ds : List D} (hf : n ≤ f) (hs : ∀ i, i < n → good i → body (s i) = some (0, s (i + 1)))
  (hb : ∀ i, i < n → ¬ good i → body (s i) = some (l + 1, ds)) (hx : ∃ i, i < n ∧ ¬ good i) : iter body f (s 0) = some (l, ds) := by
 have key : ∀ (k i : Nat), i + k = n → (∃ j, i ≤ j ∧ j < n ∧ ¬ good j) → iter body (k + (f - n)) (s i) = some (l, ds) := by
  intro k
  induction k with
  | zero =>
   intro i hi ⟨j, h1, h2, _⟩;omega
  | succ k ih =>
   intro i hi ⟨j, h1, h2, h3⟩
   by_cases hg : good i
   ·rw [show k + 1 + (f - n) = (k + (f - n)) + 1 from by omega]
    refine iter_go (hs i (by omega) hg) (ih (i + 1) (by omega) ⟨j, ?_, h2, h3⟩)
    rcases Nat.lt_or_ge i j with h | h
    ·exact h
    ·have : i = j := by omega
     subst this;exact absurd hg h3
   ·rw [show k + 1 + (f - n) = (k + (f - n)) + 1 from by omega]
    exact iter_end (hb i (by omega) hg) rfl
 obtain ⟨j, h1, h2⟩ := hx
 have := key n 0 (by omega) ⟨j, by omega, h1, h2⟩
 rwa [show n + (f - n) = f from by omega] at this
def totL (ts : List (List Int)) : Nat := (ts.map List.length).sum
def szM (vs : List V3) (ts : List (List Int)) : Nat := vs.length + ts.length + totL ts
theorem totL_take (ts : List (List Int)) (i : Nat) (h : i < ts.length) : totL (ts.take (i + 1)) = totL (ts.take i) + ts[i].length := by
 unfold totL
 rw [take_step h, List.map_append, List.sum_append]
 simp
theorem totL_le (ts : List (List Int)) (i : Nat) : totL (ts.take i) ≤ totL ts := by
 have : totL ts = totL (ts.take i) + totL (ts.drop i) := by rw [totL, totL, totL, ← List.sum_append, ← List.map_append, List.take_append_drop]
 omega
theorem len_le_totL {ts : List (List Int)} {i : Nat} (h : i < ts.length) : ts[i].length ≤ totL ts := by
 have h1 := totL_take ts i h
 have h2 := totL_le ts (i + 1)
 omega
def szP (m : Int) (n : Nat) : Int := if m - n < 0 then -1 else m - n
noncomputable def F140 : List D → Option (List D)
 | [a, .int m] => (dI a).bind fun l => if 0 ≤ m ∧ m ≤ 1048576 ∧ l.length < 9223372036854775808 then some [.int (szP m l.length)] else none
 | _ => none
noncomputable def F141 : List D → Option (List D)
 | [b, .int m] => (dT b).bind fun ts => if 0 ≤ m ∧ m ≤ 1048576 ∧ ts.length < 9223372036854775808 ∧ (∀ t ∈ ts, t.length < 9223372036854775808) then some [.int (szP m (ts.length + totL ts))] else none
 | _ => none
noncomputable def F142 : List D → Option (List D)
 | [a, b, .int m] => (dV a).bind fun vs => (dT b).bind fun ts => if m = 1048576 ∧ vs.length < 9223372036854775808 ∧ ts.length < 9223372036854775808 ∧ (∀ t ∈ ts, t.length < 9223372036854775808) then some [.int (szP 1048576 (szM vs ts))] else none
 | _ => none
noncomputable def F143 : List D → Option (List D)
 | [a] => (dI a).bind fun l => if l.length ≤ 1048576 then some [il l] else none
 | _ => none
noncomputable def F144 : List D → Option (List D)
 | [b] => (dT b).bind fun ts => if ts.length + totL ts ≤ 1048576 then some [tl ts] else none
 | _ => none
noncomputable def F145 : List D → Option (List D)
 | [a, b] => (dV a).bind fun vs => (dT b).bind fun ts => if szM vs ts ≤ 1048576 then some [vl vs, tl ts] else none
 | _ => none
open Classical in
noncomputable def F146 : List D → Option (List D)
 | [a, b, c, d] => (dV a).bind fun vs => (dT b).bind fun ts => if szM vs ts ≤ 1048576 ∧ c = a ∧ d = b then some [.bool true] else none
 | _ => none
def marksT (m : Int) (ts : List (List Int)) : D := .lst ((mks m (ts.map fun t => t.map D.int)).map D.lst)
noncomputable def F147 : List D → Option (List D)
 | [a, b, .int m] => (dV a).bind fun vs => (dT b).bind fun ts => if szM vs ts ≤ 1048576 ∧ 0 ≤ m ∧ m ≤ 1048576 then some [.int (m + 3 * vs.length + totL ts), vl (marksV m vs.length), marksT (m + 3 * vs.length) ts] else none
 | _ => none
open Classical in
noncomputable def F148 : List D → Option (List D)
 | [a, b, .int m] => if h : ∃ vs ts, szM vs ts ≤ 1048576 ∧ a = vl (marksV m vs.length) ∧ b = marksT (m + 3 * vs.length) ts ∧ 0 ≤ m ∧ m ≤ 1048576 then some [.int (m + 3 * h.choose.length + totL h.choose_spec.choose)] else none
 | _ => none
def inr (n : Int) (p : Int) : Bool := decide (0 ≤ p) && decide (p ≤ n - 1)
def triP (n : Int) : List Int → Bool
 | [a, b, c] => !(a == b) && !(b == c) && !(a == c) && [a, b, c].all (inr n)
 | _ => false
def validP (n : Nat) (ts : List (List Int)) : Bool := decide (n ≤ 64) && decide (ts.length ≤ 128) && ts.all (triP n)
noncomputable def F149 : List D → Option (List D)
 | [a, .int n] => (dI a).bind fun l => if 0 ≤ n ∧ n ≤ 1048576 ∧ l.length ≤ 1048576 then some [.bool (triP n l)] else none
 | _ => none
noncomputable def F150 : List D → Option (List D)
 | [a, b] => (dV a).bind fun vs => (dT b).bind fun ts => if szM vs ts ≤ 1048576 then some [.bool (validP vs.length ts)] else none
 | _ => none
noncomputable def F151 : List D → Option (List D) := F145
theorem F145_m {vs : List V3} {ts : List (List Int)} (h : szM vs ts ≤ 1048576) : F145 [vl vs, tl ts] = some [vl vs, tl ts] := by simp [F145, dV_vl, dT_tl, h]
theorem F146_m {vs : List V3} {ts : List (List Int)} (h : szM vs ts ≤ 1048576) : F146 [vl vs, tl ts, vl vs, tl ts] = some [.bool true] := by simp [F146, dV_vl, dT_tl, h]
theorem F147_m {vs : List V3} {ts : List (List Int)} {m : Int} (h : szM vs ts ≤ 1048576) (h0 : 0 ≤ m) (h1 : m ≤ 1048576) : F147 [vl vs, tl ts, .int m] = some [.int (m + 3 * vs.length + totL ts), vl (marksV m vs.length), marksT (m + 3 * vs.length) ts] := by simp [F147, dV_vl, dT_tl, h, h0, h1]
theorem F150_m {vs : List V3} {ts : List (List Int)} (h : szM vs ts ≤ 1048576) : F150 [vl vs, tl ts] = some [.bool (validP vs.length ts)] := by simp [F150, dV_vl, dT_tl, h]
def T140 : T :=
(oo .len [0] <|
oo (.iar .sub .i64) [1, 2] <|
oo (.icm .lss) [3, kI 0] <|
.ite 4
 (.out 0 [(.c (.int (-1)))])
 (.out 0 [3]))
def S140 (_G : Told) (_fuel : Nat) (x0 x1 : D) : Option (Nat × List D) :=
 (gev none .len [x0]).bind fun x2 =>
 (gev none (.iar .sub .i64) [x1, x2]).bind fun x3 =>
 (gev none (.icm .lss) [x3, .int 0]).bind fun x4 =>
 tif x4 (
  some (0, [(.int (-1))])) (
  some (0, [x3]))
theorem eq140 {G fuel} (x0 x1) : run G fuel T140 [x0, x1] = S140 G fuel x0 x1 := by rw [run_eq]; kernel_rfl
def T141 : T :=
(oo .len [0] <|
oo (.iar .sub .i64) [1, 2] <|
oo (.icm .lss) [3, kI 0] <|
.ite 4
 (.out 0 [(.c (.int (-1)))])
 (.join 5
  (.loop [3, kI 0]
   (oo .len [0] <|
   oo (.icm .lss) [6, 7] <|
   .ite 8
    (oo .idx [0, 6] <|
    cc 140 [9, 5] 1 <|
    oo (.icm .lss) [10, kI 0] <|
    .ite 11
     (.out 2 [(.c (.int (-1)))])
     (oo (.iar .add .i64) [6, kI 1] <|
     .out 0 [10, 12]))
    (.out 1 [5, 6, 6, 7, 8])))
 (.out 0 [5])))
def S141L0 (G : Told) (x0 : D) : List D → Option (Nat × List D) := fun e5 =>
    (gev none .len [x0]).bind fun x7 =>
    (gev none (.icm .lss) [e5.getD 1 .undef, x7]).bind fun x8 =>
    tif x8 (
     (gev none .idx [x0, e5.getD 1 .undef]).bind fun x9 =>
     (gcall G none 140 [x9, e5.getD 0 .undef] 1).bind fun e10 =>
     (gev none (.icm .lss) [e10.getD 0 .undef, .int 0]).bind fun x11 =>
     tif x11 (
      some (2, [(.int (-1))])) (
      (gev none (.iar .add .i64) [e5.getD 1 .undef, .int 1]).bind fun x12 =>
      some (0, [e10.getD 0 .undef, x12]))) (
     some (1, [e5.getD 0 .undef, e5.getD 1 .undef, e5.getD 1 .undef, x7, x8]))
def S141 (G : Told) (fuel : Nat) (x0 x1 : D) : Option (Nat × List D) :=
 (gev none .len [x0]).bind fun x2 =>
 (gev none (.iar .sub .i64) [x1, x2]).bind fun x3 =>
 (gev none (.icm .lss) [x3, .int 0]).bind fun x4 =>
 tif x4 (
  some (0, [(.int (-1))])) (
  tjoin 5 (
   iter (tbody 2 (S141L0 G x0)) fuel [x3, .int 0]) fun e5 =>
  some (0, [e5.getD 0 .undef]))
theorem eq141 {G fuel} (x0 x1) : run G fuel T141 [x0, x1] = S141 G fuel x0 x1 := by rw [run_eq]; kernel_rfl
def T142 : T :=
(cc 120 [0, 2] 1 <|
oo (.icm .lss) [3, kI 0] <|
.ite 4
 (.out 0 [(.c (.int (-1)))])
 (cc 141 [1, 3] 1 <|
 oo (.icm .lss) [5, kI 0] <|
 .ite 6
  (.out 0 [(.c (.int (-1)))])
  (.out 0 [5])))
def S142 (G : Told) (_fuel : Nat) (x0 x1 x2 : D) : Option (Nat × List D) :=
 (gcall G none 120 [x0, x2] 1).bind fun e3 =>
 (gev none (.icm .lss) [e3.getD 0 .undef, .int 0]).bind fun x4 =>
 tif x4 (
  some (0, [(.int (-1))])) (
  (gcall G none 141 [x1, e3.getD 0 .undef] 1).bind fun e5 =>
  (gev none (.icm .lss) [e5.getD 0 .undef, .int 0]).bind fun x6 =>
  tif x6 (
   some (0, [(.int (-1))])) (
   some (0, [e5.getD 0 .undef])))
theorem eq142 {G fuel} (x0 x1 x2) : run G fuel T142 [x0, x1, x2] = S142 G fuel x0 x1 x2 := by rw [run_eq]; kernel_rfl
def T143 : T :=
(oo .len [0] <|
oo .rep [1, kI 0] <|
.join 5
 (.loop [2, kI 0]
  (oo .len [0] <|
  oo (.icm .lss) [4, 5] <|
  .ite 6
   (oo .idx [0, 4] <|
   oo .idx [3, 4] <|
   oo .set [3, 4, 7] <|
   oo (.iar .add .i64) [4, kI 1] <|
   .out 0 [9, 10])
   (.out 1 [3, 4, 4, 5, 6])))
(.out 0 [3]))
def S143L0 (_G : Told) (x0 : D) : List D → Option (Nat × List D) := fun e3 =>
   (gev none .len [x0]).bind fun x5 =>
   (gev none (.icm .lss) [e3.getD 1 .undef, x5]).bind fun x6 =>
   tif x6 (
    (gev none .idx [x0, e3.getD 1 .undef]).bind fun x7 =>
    (gev none .idx [e3.getD 0 .undef, e3.getD 1 .undef]).bind fun _x8 =>
    (gev none .set [e3.getD 0 .undef, e3.getD 1 .undef, x7]).bind fun x9 =>
    (gev none (.iar .add .i64) [e3.getD 1 .undef, .int 1]).bind fun x10 =>
    some (0, [x9, x10])) (
    some (1, [e3.getD 0 .undef, e3.getD 1 .undef, e3.getD 1 .undef, x5, x6]))
def S143 (G : Told) (fuel : Nat) (x0 : D) : Option (Nat × List D) :=
 (gev none .len [x0]).bind fun x1 =>
 (gev none .rep [x1, .int 0]).bind fun x2 =>
 tjoin 5 (
  iter (tbody 2 (S143L0 G x0)) fuel [x2, .int 0]) fun e3 =>
 some (0, [e3.getD 0 .undef])
theorem eq143 {G fuel} (x0) : run G fuel T143 [x0] = S143 G fuel x0 := by rw [run_eq]; kernel_rfl
def T143s : T :=
(oo .mklst [] <|
oo .app [1, 0] <|
.out 0 [2])
def S143s (_G : Told) (_fuel : Nat) (x0 : D) : Option (Nat × List D) :=
 (gev none .mklst []).bind fun x1 =>
 (gev none .app [x1, x0]).bind fun x2 =>
 some (0, [x2])
theorem eq143s {G fuel} (x0) : run G fuel T143s [x0] = S143s G fuel x0 := by rw [run_eq]; kernel_rfl
def T144 : T :=
(oo .len [0] <|
oo .rep [(.v 1), kL] <|
.join 5
 (.loop [2, kI 0]
  (oo .len [0] <|
  oo (.icm .lss) [4, 5] <|
  .ite 6
   (oo .idx [0, 4] <|
   cc 143 [7] 1 <|
   oo .idx [3, 4] <|
   oo .set [3, 4, 8] <|
   oo (.iar .add .i64) [4, kI 1] <|
   .out 0 [10, 11])
   (.out 1 [3, 4, 4, 5, 6])))
(.out 0 [3]))
def S144L0 (G : Told) (x0 : D) : List D → Option (Nat × List D) := fun e3 =>
   (gev none .len [x0]).bind fun x5 =>
   (gev none (.icm .lss) [e3.getD 1 .undef, x5]).bind fun x6 =>
   tif x6 (
    (gev none .idx [x0, e3.getD 1 .undef]).bind fun x7 =>
    (gcall G none 143 [x7] 1).bind fun e8 =>
    (gev none .idx [e3.getD 0 .undef, e3.getD 1 .undef]).bind fun _x9 =>
    (gev none .set [e3.getD 0 .undef, e3.getD 1 .undef, e8.getD 0 .undef]).bind fun x10 =>
    (gev none (.iar .add .i64) [e3.getD 1 .undef, .int 1]).bind fun x11 =>
    some (0, [x10, x11])) (
    some (1, [e3.getD 0 .undef, e3.getD 1 .undef, e3.getD 1 .undef, x5, x6]))
def S144 (G : Told) (fuel : Nat) (x0 : D) : Option (Nat × List D) :=
 (gev none .len [x0]).bind fun x1 =>
 (gev none .rep [x1, (.lst [])]).bind fun x2 =>
 tjoin 5 (
  iter (tbody 2 (S144L0 G x0)) fuel [x2, .int 0]) fun e3 =>
 some (0, [e3.getD 0 .undef])
theorem eq144 {G fuel} (x0) : run G fuel T144 [x0] = S144 G fuel x0 := by rw [run_eq]; kernel_rfl
def T145 : T :=
(cc 121 [0] 1 <|
cc 144 [1] 1 <|
.out 0 [2, 3])
def S145 (G : Told) (_fuel : Nat) (x0 x1 : D) : Option (Nat × List D) :=
 (gcall G none 121 [x0] 1).bind fun e2 =>
 (gcall G none 144 [x1] 1).bind fun e3 =>
 some (0, [e2.getD 0 .undef, e3.getD 0 .undef])
theorem eq145 {G fuel} (x0 x1) : run G fuel T145 [x0, x1] = S145 G fuel x0 x1 := by rw [run_eq]; kernel_rfl
def T146 : T :=
(cc 127 [0, 2] 1 <|
oo .bnot [4] <|
.ite 5
 (.out 0 [kN])
 (cc 101 [1, 3] 1 <|
 oo .bnot [6] <|
 .ite 7
  (.out 0 [kN])
  (.out 0 [kT])))
def S146 (G : Told) (_fuel : Nat) (x0 x1 x2 x3 : D) : Option (Nat × List D) :=
 (gcall G none 127 [x0, x2] 1).bind fun e4 =>
 (gev none .bnot [e4.getD 0 .undef]).bind fun x5 =>
 tif x5 (
  some (0, [.bool false])) (
  (gcall G none 101 [x1, x3] 1).bind fun e6 =>
  (gev none .bnot [e6.getD 0 .undef]).bind fun x7 =>
  tif x7 (
   some (0, [.bool false])) (
   some (0, [.bool true])))
theorem eq146 {G fuel} (x0 x1 x2 x3) : run G fuel T146 [x0, x1, x2, x3] = S146 G fuel x0 x1 x2 x3 := by rw [run_eq]; kernel_rfl
def T147 : T :=
(cc 128 [0, 2] 2 <|
cc 103 [1, 3] 2 <|
.out 0 [5, 4, 6])
def S147 (G : Told) (_fuel : Nat) (x0 x1 x2 : D) : Option (Nat × List D) :=
 (gcall G none 128 [x0, x2] 2).bind fun e3 =>
 (gcall G none 103 [x1, e3.getD 0 .undef] 2).bind fun e5 =>
 some (0, [e5.getD 0 .undef, e3.getD 1 .undef, e5.getD 1 .undef])
theorem eq147 {G fuel} (x0 x1 x2) : run G fuel T147 [x0, x1, x2] = S147 G fuel x0 x1 x2 := by rw [run_eq]; kernel_rfl
def T148 : T :=
(cc 129 [0, 2] 1 <|
oo (.icm .lss) [3, kI 0] <|
.ite 4
 (.out 0 [(.c (.int (-1)))])
 (cc 105 [1, 3] 1 <|
 oo (.icm .lss) [5, kI 0] <|
 .ite 6
  (.out 0 [(.c (.int (-1)))])
  (.out 0 [5])))
def S148 (G : Told) (_fuel : Nat) (x0 x1 x2 : D) : Option (Nat × List D) :=
 (gcall G none 129 [x0, x2] 1).bind fun e3 =>
 (gev none (.icm .lss) [e3.getD 0 .undef, .int 0]).bind fun x4 =>
 tif x4 (
  some (0, [(.int (-1))])) (
  (gcall G none 105 [x1, e3.getD 0 .undef] 1).bind fun e5 =>
  (gev none (.icm .lss) [e5.getD 0 .undef, .int 0]).bind fun x6 =>
  tif x6 (
   some (0, [(.int (-1))])) (
   some (0, [e5.getD 0 .undef])))
theorem eq148 {G fuel} (x0 x1 x2) : run G fuel T148 [x0, x1, x2] = S148 G fuel x0 x1 x2 := by rw [run_eq]; kernel_rfl
def T149 : T :=
(oo .len [0] <|
oo (.icm .neq) [2, kI 3] <|
oN 3 .id [0] <|
oN 3 .idx [4, kI 0] <|
oN 3 .id [5] <|
oN 3 .id [0] <|
oN 3 .idx [7, kI 1] <|
oN 3 .id [8] <|
oN 3 (.icm .eql) [6, 9] <|
oo .pick [3, kT, 10] <|
oN 11 .id [0] <|
oN 11 .idx [12, kI 1] <|
oN 11 .id [13] <|
oN 11 .id [0] <|
oN 11 .idx [15, kI 2] <|
oN 11 .id [16] <|
oN 11 (.icm .eql) [14, 17] <|
oo .pick [11, kT, 18] <|
oN 19 .id [0] <|
oN 19 .idx [20, kI 0] <|
oN 19 .id [21] <|
oN 19 .id [0] <|
oN 19 .idx [23, kI 2] <|
oN 19 .id [24] <|
oN 19 (.icm .eql) [22, 25] <|
oo .pick [19, kT, 26] <|
.ite 27
 (.out 0 [kN])
 (oo .idx [0, kI 0] <|
 oo (.iar .sub .i64) [1, kI 1] <|
 cc 19 [28, kI 0, 29] 1 <|
 oT 30 .id [0] <|
 oT 30 .idx [31, kI 1] <|
 oT 30 .id [32] <|
 oT 30 .id [1] <|
 oT 30 (.iar .sub .i64) [34, kI 1] <|
 cT 30 19 [33, kI 0, 35] 1 <|
 oo .pick [30, 36, kN] <|
 oT 37 .id [0] <|
 oT 37 .idx [38, kI 2] <|
 oT 37 .id [39] <|
 oT 37 .id [1] <|
 oT 37 (.iar .sub .i64) [41, kI 1] <|
 cT 37 19 [40, kI 0, 42] 1 <|
 oo .pick [37, 43, kN] <|
 .out 0 [44]))
def S149 (G : Told) (_fuel : Nat) (x0 x1 : D) : Option (Nat × List D) :=
 (gev none .len [x0]).bind fun x2 =>
 (gev none (.icm .neq) [x2, .int 3]).bind fun x3 =>
 (gev (some (x3, false)) .id [x0]).bind fun x4 =>
 (gev (some (x3, false)) .idx [x4, .int 0]).bind fun x5 =>
 (gev (some (x3, false)) .id [x5]).bind fun x6 =>
 (gev (some (x3, false)) .id [x0]).bind fun x7 =>
 (gev (some (x3, false)) .idx [x7, .int 1]).bind fun x8 =>
 (gev (some (x3, false)) .id [x8]).bind fun x9 =>
 (gev (some (x3, false)) (.icm .eql) [x6, x9]).bind fun x10 =>
 (gev none .pick [x3, .bool true, x10]).bind fun x11 =>
 (gev (some (x11, false)) .id [x0]).bind fun x12 =>
 (gev (some (x11, false)) .idx [x12, .int 1]).bind fun x13 =>
 (gev (some (x11, false)) .id [x13]).bind fun x14 =>
 (gev (some (x11, false)) .id [x0]).bind fun x15 =>
 (gev (some (x11, false)) .idx [x15, .int 2]).bind fun x16 =>
 (gev (some (x11, false)) .id [x16]).bind fun x17 =>
 (gev (some (x11, false)) (.icm .eql) [x14, x17]).bind fun x18 =>
 (gev none .pick [x11, .bool true, x18]).bind fun x19 =>
 (gev (some (x19, false)) .id [x0]).bind fun x20 =>
 (gev (some (x19, false)) .idx [x20, .int 0]).bind fun x21 =>
 (gev (some (x19, false)) .id [x21]).bind fun x22 =>
 (gev (some (x19, false)) .id [x0]).bind fun x23 =>
 (gev (some (x19, false)) .idx [x23, .int 2]).bind fun x24 =>
 (gev (some (x19, false)) .id [x24]).bind fun x25 =>
 (gev (some (x19, false)) (.icm .eql) [x22, x25]).bind fun x26 =>
 (gev none .pick [x19, .bool true, x26]).bind fun x27 =>
 tif x27 (
  some (0, [.bool false])) (
  (gev none .idx [x0, .int 0]).bind fun x28 =>
  (gev none (.iar .sub .i64) [x1, .int 1]).bind fun x29 =>
  (gcall G none 19 [x28, .int 0, x29] 1).bind fun e30 =>
  (gev (some ((e30.getD 0 .undef), true)) .id [x0]).bind fun x31 =>
  (gev (some ((e30.getD 0 .undef), true)) .idx [x31, .int 1]).bind fun x32 =>
  (gev (some ((e30.getD 0 .undef), true)) .id [x32]).bind fun x33 =>
  (gev (some ((e30.getD 0 .undef), true)) .id [x1]).bind fun x34 =>
  (gev (some ((e30.getD 0 .undef), true)) (.iar .sub .i64) [x34, .int 1]).bind fun x35 =>
  (gcall G (some ((e30.getD 0 .undef), true)) 19 [x33, .int 0, x35] 1).bind fun e36 =>
  (gev none .pick [e30.getD 0 .undef, e36.getD 0 .undef, .bool false]).bind fun x37 =>
  (gev (some (x37, true)) .id [x0]).bind fun x38 =>
  (gev (some (x37, true)) .idx [x38, .int 2]).bind fun x39 =>
  (gev (some (x37, true)) .id [x39]).bind fun x40 =>
  (gev (some (x37, true)) .id [x1]).bind fun x41 =>
  (gev (some (x37, true)) (.iar .sub .i64) [x41, .int 1]).bind fun x42 =>
  (gcall G (some (x37, true)) 19 [x40, .int 0, x42] 1).bind fun e43 =>
  (gev none .pick [x37, e43.getD 0 .undef, .bool false]).bind fun x44 =>
  some (0, [x44]))
theorem eq149 {G fuel} (x0 x1) : run G fuel T149 [x0, x1] = S149 G fuel x0 x1 := by rw [run_eq]; kernel_rfl
def T150 : T :=
(oo .len [0] <|
oo (.icm .gtr) [2, kI 64] <|
oN 3 .id [1] <|
oN 3 .len [4] <|
oN 3 (.icm .gtr) [5, kI 128] <|
oo .pick [3, kT, 6] <|
.ite 7
 (.out 0 [kN])
 (oo .len [1] <|
 .join 2
  (.loop [kI 0]
   (oo (.icm .lss) [9, 8] <|
   .ite 10
    (oo .idx [1, 9] <|
    oo .len [11] <|
    oo (.icm .neq) [12, kI 3] <|
    oN 13 .id [11] <|
    oN 13 .idx [14, kI 0] <|
    oN 13 .id [15] <|
    oN 13 .id [11] <|
    oN 13 .idx [17, kI 1] <|
    oN 13 .id [18] <|
    oN 13 (.icm .eql) [16, 19] <|
    oo .pick [13, kT, 20] <|
    oN 21 .id [11] <|
    oN 21 .idx [22, kI 1] <|
    oN 21 .id [23] <|
    oN 21 .id [11] <|
    oN 21 .idx [25, kI 2] <|
    oN 21 .id [26] <|
    oN 21 (.icm .eql) [24, 27] <|
    oo .pick [21, kT, 28] <|
    oN 29 .id [11] <|
    oN 29 .idx [30, kI 0] <|
    oN 29 .id [31] <|
    oN 29 .id [11] <|
    oN 29 .idx [33, kI 2] <|
    oN 29 .id [34] <|
    oN 29 (.icm .eql) [32, 35] <|
    oo .pick [29, kT, 36] <|
    .ite 37
     (.out 2 [kN])
     (oo .len [11] <|
     .join 2
      (.loop [kI 0]
       (oo (.icm .lss) [39, 38] <|
       .ite 40
        (oo .idx [11, 39] <|
        oo (.iar .sub .i64) [2, kI 1] <|
        cc 19 [41, kI 0, 42] 1 <|
        oo .bnot [43] <|
        .ite 44
         (.out 4 [kN])
         (oo (.iar .add .i64) [39, kI 1] <|
         .out 0 [45]))
        (.out 1 [39, 40])))
     (oo (.iar .add .i64) [9, kI 1] <|
     .out 0 [41])))
    (.out 1 [9, 10])))
 (.out 0 [kT])))
def S150L0 (G : Told) (x2 : D) (x11 : D) (x38 : D) : List D → Option (Nat × List D) := fun e39 =>
        (gev none (.icm .lss) [e39.getD 0 .undef, x38]).bind fun x40 =>
        tif x40 (
         (gev none .idx [x11, e39.getD 0 .undef]).bind fun x41 =>
         (gev none (.iar .sub .i64) [x2, .int 1]).bind fun x42 =>
         (gcall G none 19 [x41, .int 0, x42] 1).bind fun e43 =>
         (gev none .bnot [e43.getD 0 .undef]).bind fun x44 =>
         tif x44 (
          some (4, [.bool false])) (
          (gev none (.iar .add .i64) [e39.getD 0 .undef, .int 1]).bind fun x45 =>
          some (0, [x45]))) (
         some (1, [e39.getD 0 .undef, x40]))
def S150L1 (G : Told) (fuel : Nat) (x1 : D) (x2 : D) (x8 : D) : List D → Option (Nat × List D) := fun e9 =>
    (gev none (.icm .lss) [e9.getD 0 .undef, x8]).bind fun x10 =>
    tif x10 (
     (gev none .idx [x1, e9.getD 0 .undef]).bind fun x11 =>
     (gev none .len [x11]).bind fun x12 =>
     (gev none (.icm .neq) [x12, .int 3]).bind fun x13 =>
     (gev (some (x13, false)) .id [x11]).bind fun x14 =>
     (gev (some (x13, false)) .idx [x14, .int 0]).bind fun x15 =>
     (gev (some (x13, false)) .id [x15]).bind fun x16 =>
     (gev (some (x13, false)) .id [x11]).bind fun x17 =>
     (gev (some (x13, false)) .idx [x17, .int 1]).bind fun x18 =>
     (gev (some (x13, false)) .id [x18]).bind fun x19 =>
     (gev (some (x13, false)) (.icm .eql) [x16, x19]).bind fun x20 =>
     (gev none .pick [x13, .bool true, x20]).bind fun x21 =>
     (gev (some (x21, false)) .id [x11]).bind fun x22 =>
     (gev (some (x21, false)) .idx [x22, .int 1]).bind fun x23 =>
     (gev (some (x21, false)) .id [x23]).bind fun x24 =>
     (gev (some (x21, false)) .id [x11]).bind fun x25 =>
     (gev (some (x21, false)) .idx [x25, .int 2]).bind fun x26 =>
     (gev (some (x21, false)) .id [x26]).bind fun x27 =>
     (gev (some (x21, false)) (.icm .eql) [x24, x27]).bind fun x28 =>
     (gev none .pick [x21, .bool true, x28]).bind fun x29 =>
     (gev (some (x29, false)) .id [x11]).bind fun x30 =>
     (gev (some (x29, false)) .idx [x30, .int 0]).bind fun x31 =>
     (gev (some (x29, false)) .id [x31]).bind fun x32 =>
     (gev (some (x29, false)) .id [x11]).bind fun x33 =>
     (gev (some (x29, false)) .idx [x33, .int 2]).bind fun x34 =>
     (gev (some (x29, false)) .id [x34]).bind fun x35 =>
     (gev (some (x29, false)) (.icm .eql) [x32, x35]).bind fun x36 =>
     (gev none .pick [x29, .bool true, x36]).bind fun x37 =>
     tif x37 (
      some (2, [.bool false])) (
      (gev none .len [x11]).bind fun x38 =>
      tjoin 2 (
       iter (tbody 1 (S150L0 G x2 x11 x38)) fuel [.int 0]) fun _e39 =>
      (gev none (.iar .add .i64) [e9.getD 0 .undef, .int 1]).bind fun x41 =>
      some (0, [x41]))) (
     some (1, [e9.getD 0 .undef, x10]))
def S150 (G : Told) (fuel : Nat) (x0 x1 : D) : Option (Nat × List D) :=
 (gev none .len [x0]).bind fun x2 =>
 (gev none (.icm .gtr) [x2, .int 64]).bind fun x3 =>
 (gev (some (x3, false)) .id [x1]).bind fun x4 =>
 (gev (some (x3, false)) .len [x4]).bind fun x5 =>
 (gev (some (x3, false)) (.icm .gtr) [x5, .int 128]).bind fun x6 =>
 (gev none .pick [x3, .bool true, x6]).bind fun x7 =>
 tif x7 (
  some (0, [.bool false])) (
  (gev none .len [x1]).bind fun x8 =>
  tjoin 2 (
   iter (tbody 1 (S150L1 G fuel x1 x2 x8)) fuel [.int 0]) fun _e9 =>
  some (0, [.bool true]))
theorem eq150 {G fuel} (x0 x1) : run G fuel T150 [x0, x1] = S150 G fuel x0 x1 := by rw [run_eq]; kernel_rfl
def T150s : T :=
(oo .len [0] <|
oo (.icm .gtr) [2, kI 64] <|
oN 3 .id [1] <|
oN 3 .len [4] <|
oN 3 (.icm .gtr) [5, kI 128] <|
oo .pick [3, kT, 6] <|
.ite 7
 (.out 0 [kN])
 (.join 4
  (.loop [kI 0]
   (oo .len [1] <|
   oo (.icm .lss) [8, 9] <|
   .ite 10
    (oo .idx [1, 8] <|
    oo .len [0] <|
    cc 149 [11, 12] 1 <|
    oo .bnot [13] <|
    .ite 14
     (.out 2 [kN])
     (oo (.iar .add .i64) [8, kI 1] <|
     .out 0 [15]))
    (.out 1 [8, 8, 9, 10])))
 (.out 0 [kT])))
def S150sL0 (G : Told) (x0 : D) (x1 : D) : List D → Option (Nat × List D) := fun e8 =>
    (gev none .len [x1]).bind fun x9 =>
    (gev none (.icm .lss) [e8.getD 0 .undef, x9]).bind fun x10 =>
    tif x10 (
     (gev none .idx [x1, e8.getD 0 .undef]).bind fun x11 =>
     (gev none .len [x0]).bind fun x12 =>
     (gcall G none 149 [x11, x12] 1).bind fun e13 =>
     (gev none .bnot [e13.getD 0 .undef]).bind fun x14 =>
     tif x14 (
      some (2, [.bool false])) (
      (gev none (.iar .add .i64) [e8.getD 0 .undef, .int 1]).bind fun x15 =>
      some (0, [x15]))) (
     some (1, [e8.getD 0 .undef, e8.getD 0 .undef, x9, x10]))
def S150s (G : Told) (fuel : Nat) (x0 x1 : D) : Option (Nat × List D) :=
 (gev none .len [x0]).bind fun x2 =>
 (gev none (.icm .gtr) [x2, .int 64]).bind fun x3 =>
 (gev (some (x3, false)) .id [x1]).bind fun x4 =>
 (gev (some (x3, false)) .len [x4]).bind fun x5 =>
 (gev (some (x3, false)) (.icm .gtr) [x5, .int 128]).bind fun x6 =>
 (gev none .pick [x3, .bool true, x6]).bind fun x7 =>
 tif x7 (
  some (0, [.bool false])) (
  tjoin 4 (
   iter (tbody 1 (S150sL0 G x0 x1)) fuel [.int 0]) fun _e8 =>
  some (0, [.bool true]))
theorem eq150s {G fuel} (x0 x1) : run G fuel T150s [x0, x1] = S150s G fuel x0 x1 := by rw [run_eq]; kernel_rfl
def T151 : T :=
(oo .mklst [] <|
oo .app [2, 0] <|
oo .len [1] <|
.join 3
 (.loop [kL, (.c (.int 0))]
  (oo (.icm .lss) [6, 4] <|
  .ite 7
   (oo .idx [1, 6] <|
   oo .mklst [] <|
   oo .app [9, 8] <|
   oo .mklst [10] <|
   oo .app [5, 11] <|
   oo (.iar .add .i64) [6, kI 1] <|
   .out 0 [12, 13])
   (.out 1 [5, 6, 7])))
(.out 0 [3, 5]))
def S151L0 (_G : Told) (x1 : D) (x4 : D) : List D → Option (Nat × List D) := fun e5 =>
   (gev none (.icm .lss) [e5.getD 1 .undef, x4]).bind fun x7 =>
   tif x7 (
    (gev none .idx [x1, e5.getD 1 .undef]).bind fun x8 =>
    (gev none .mklst []).bind fun x9 =>
    (gev none .app [x9, x8]).bind fun x10 =>
    (gev none .mklst [x10]).bind fun x11 =>
    (gev none .app [e5.getD 0 .undef, x11]).bind fun x12 =>
    (gev none (.iar .add .i64) [e5.getD 1 .undef, .int 1]).bind fun x13 =>
    some (0, [x12, x13])) (
    some (1, [e5.getD 0 .undef, e5.getD 1 .undef, x7]))
def S151 (G : Told) (fuel : Nat) (x0 x1 : D) : Option (Nat × List D) :=
 (gev none .mklst []).bind fun x2 =>
 (gev none .app [x2, x0]).bind fun x3 =>
 (gev none .len [x1]).bind fun x4 =>
 tjoin 3 (
  iter (tbody 2 (S151L0 G x1 x4)) fuel [(.lst []), (.int 0)]) fun e5 =>
 some (0, [x3, e5.getD 0 .undef])
theorem eq151 {G fuel} (x0 x1) : run G fuel T151 [x0, x1] = S151 G fuel x0 x1 := by rw [run_eq]; kernel_rfl
def T151s : T :=
(oo .mklst [] <|
oo .app [2, 0] <|
oo .mklst [] <|
.join 5
 (.loop [4, kI 0]
  (oo .len [1] <|
  oo (.icm .lss) [6, 7] <|
  .ite 8
   (oo .idx [1, 6] <|
   cc 143 [9] 1 <|
   oo .mklst [10] <|
   oo .app [5, 11] <|
   oo (.iar .add .i64) [6, kI 1] <|
   .out 0 [12, 13])
   (.out 1 [5, 6, 6, 7, 8])))
(.out 0 [3, 5]))
def S151sL0 (G : Told) (x1 : D) : List D → Option (Nat × List D) := fun e5 =>
   (gev none .len [x1]).bind fun x7 =>
   (gev none (.icm .lss) [e5.getD 1 .undef, x7]).bind fun x8 =>
   tif x8 (
    (gev none .idx [x1, e5.getD 1 .undef]).bind fun x9 =>
    (gcall G none 143 [x9] 1).bind fun e10 =>
    (gev none .mklst [e10.getD 0 .undef]).bind fun x11 =>
    (gev none .app [e5.getD 0 .undef, x11]).bind fun x12 =>
    (gev none (.iar .add .i64) [e5.getD 1 .undef, .int 1]).bind fun x13 =>
    some (0, [x12, x13])) (
    some (1, [e5.getD 0 .undef, e5.getD 1 .undef, e5.getD 1 .undef, x7, x8]))
def S151s (G : Told) (fuel : Nat) (x0 x1 : D) : Option (Nat × List D) :=
 (gev none .mklst []).bind fun x2 =>
 (gev none .app [x2, x0]).bind fun x3 =>
 (gev none .mklst []).bind fun x4 =>
 tjoin 5 (
  iter (tbody 2 (S151sL0 G x1)) fuel [x4, .int 0]) fun e5 =>
 some (0, [x3, e5.getD 0 .undef])
theorem eq151s {G fuel} (x0 x1) : run G fuel T151s [x0, x1] = S151s G fuel x0 x1 := by rw [run_eq]; kernel_rfl
attribute [local irreducible] tif tjoin IntKind.wrap feq fadd fmul fsub fdiv fgt i2f sameP wide eqV vl il tl totL szM szP marksV marksT inr triP validP

theorem run140 {G : Told} : Runs G F140 T140 := by
 intro ds rs h
 unfold F140 at h
 split at h
 case h_2 => cases h
 rename_i a m
 obtain ⟨l, ha, h⟩ := Option.bind_eq_some_iff.1 h
 rw [dI_inv ha]
 split at h
 case isFalse => cases h
 rename_i hc
 obtain ⟨h0, h1, h2⟩ := hc
 simp only [Option.some.injEq] at h
 subst h
 refine ⟨0, ?_⟩
 rw [eq140]
 unfold S140
 have hn := len_il (l := l)
 have hw : gev none (.iar .sub .i64) [.int m, .int l.length] = some (.int (m - l.length)) := by have e : gev none (.iar .sub .i64) [.int m, .int l.length] = some (.int (IntKind.wrap .i64 (m - l.length))) := rfl;rw [e, wrap_sub h0 h1 (by omega) (by omega)]
 unfold szP
 by_cases hz : m - l.length < 0
 ·have hd : decide (m - (l.length : Int) < 0) = true := by simpa using hz
  rw [if_pos hz]
  repeat' first
   | with_reducible refine st_ift ?_
   | ((with_reducible apply st_some); exact hn)
   | ((with_reducible apply st_some); exact hw)
   | ((with_reducible apply st_t); exact rfl; assumption)
   | exact rfl
 ·have hd : decide (m - (l.length : Int) < 0) = false := by simpa using hz
  rw [if_neg hz]
  repeat' first
   | with_reducible refine st_iff ?_
   | ((with_reducible apply st_some); exact hn)
   | ((with_reducible apply st_some); exact hw)
   | ((with_reducible apply st_f); exact rfl; assumption)
   | exact rfl
theorem run141 {G : Told} (g140 : G 140 = F140) : Runs G F141 T141 := by
 intro ds rs h
 unfold F141 at h
 split at h
 case h_2 => cases h
 rename_i b m
 obtain ⟨ts, hb, h⟩ := Option.bind_eq_some_iff.1 h
 rw [dT_inv hb]
 split at h
 case isFalse => cases h
 rename_i hc
 obtain ⟨h0, h1, h2, h3⟩ := hc
 simp only [Option.some.injEq] at h
 subst h
 refine ⟨ts.length + 1, ?_⟩
 rw [eq141]
 unfold S141
 have hn := len_tl (l := ts)
 have hw : gev none (.iar .sub .i64) [.int m, .int ts.length] = some (.int (m - ts.length)) := by have e : gev none (.iar .sub .i64) [.int m, .int ts.length] = some (.int (IntKind.wrap .i64 (m - ts.length))) := rfl;rw [e, wrap_sub h0 h1 (by omega) (by omega)]
 by_cases hz : m - ts.length < 0
 ·have hd : decide (m - (ts.length : Int) < 0) = true := by simpa using hz
  have e : szP m (ts.length + totL ts) = -1 := by unfold szP;rw [if_pos (by omega)]
  rw [e]
  repeat' first
   | with_reducible refine st_ift ?_
   | ((with_reducible apply st_some); exact hn)
   | ((with_reducible apply st_some); exact hw)
   | ((with_reducible apply st_t); exact rfl; assumption)
   | exact rfl
 have hd : decide (m - (ts.length : Int) < 0) = false := by simpa using hz
 have hstep : ∀ i, (hi : i < ts.length) → 0 ≤ m - ts.length - totL (ts.take i) → F140 [il ts[i], .int (m - ts.length - totL (ts.take i))] = some [.int (szP (m - ts.length - totL (ts.take i)) ts[i].length)] := by intro i hi hp;have hl := h3 ts[i] (List.getElem_mem hi);simp only [F140, dI_il, Option.bind_some];rw [if_pos ⟨hp, by omega, hl⟩]
 have hgo : ∀ i, (hi : i < ts.length) → 0 ≤ m - ts.length - totL (ts.take (i + 1)) → tbody 2 (S141L0 G (tl ts)) [.int (m - ts.length - totL (ts.take i)), .int (i : Int)] = some (0, [.int (m - ts.length - totL (ts.take (i + 1))), .int ((i + 1 : Nat) : Int)]) := by
  intro i hi hp;refine tb rfl ?_;have ht := totL_take ts i hi;have hf := hstep i hi (by omega)
  have e : szP (m - ts.length - totL (ts.take i)) ts[i].length = m - ts.length - totL (ts.take (i + 1)) := by
   unfold szP;rw [if_neg (by omega)]
   omega
  rw [e] at hf;have hlt : decide ((i : Int) < (ts.length : Int)) = true := by simpa using hi
  have hx := idx_tl hi;have ha := add1n (i := i) (by omega)
  have hd : decide (m - ts.length - totL (ts.take (i + 1)) < 0) = false := by simp; omega
  unfold S141L0
  repeat' first
   | with_reducible refine st_ift ?_
   | with_reducible refine st_iff ?_
   | ((with_reducible apply st_call); exact g140; exact rfl; exact hf; exact rfl)
   | ((with_reducible apply st_some); exact hn)
   | ((with_reducible apply st_some); exact hx)
   | ((with_reducible apply st_some); exact ha)
   | ((with_reducible apply st_t); exact rfl; assumption)
   | ((with_reducible apply st_f); exact rfl; assumption)
   | exact rfl
 by_cases hall : 0 ≤ m - ts.length - totL ts
 ·have e : szP m (ts.length + totL ts) = m - ts.length - totL ts := by
   unfold szP;rw [if_neg (by omega)]
   omega
  rw [e];have hloop : iter (tbody 2 (S141L0 G (tl ts))) (ts.length + 1) [.int (m - ts.length), .int 0] = some (0, [.int (m - ts.length - totL ts), .int (ts.length : Int), .int (ts.length : Int), .int (ts.length : Int), .bool false]) := by
   have e0 : totL [] = 0 := by unfold totL; rfl
   have e1 : totL (ts.take ts.length) = totL ts := by rw [List.take_length]
   have k := iter_upto (body := tbody 2 (S141L0 G (tl ts))) (n := ts.length) (l := 0) (ds := [.int (m - ts.length - totL ts), .int (ts.length : Int), .int (ts.length : Int), .int (ts.length : Int), .bool false])
    (fun i => [.int (m - ts.length - totL (ts.take i)), .int (i : Int)]) (fun i hi => hgo i hi (by have := totL_le ts (i + 1); omega)) ?_
   ·simpa [e0] using k
   ·rw [e1]
    refine tb rfl ?_;have hlt : decide ((ts.length : Int) < (ts.length : Int)) = false := by simp
    unfold S141L0
    repeat' first
     | with_reducible refine st_iff ?_
     | ((with_reducible apply st_some); exact hn)
     | ((with_reducible apply st_f); exact rfl; assumption)
     | exact rfl
  repeat' first
   | with_reducible refine st_iff ?_
   | ((with_reducible apply st_join); exact hloop; exact rfl)
   | ((with_reducible apply st_some); exact hn)
   | ((with_reducible apply st_some); exact hw)
   | ((with_reducible apply st_f); exact rfl; assumption)
   | exact rfl
 ·have e : szP m (ts.length + totL ts) = -1 := by unfold szP;rw [if_pos (by omega)]
  rw [e];have hloop : iter (tbody 2 (S141L0 G (tl ts))) (ts.length + 1) [.int (m - ts.length), .int 0] = some (1, [.int (-1)]) := by
   have e0 : totL [] = 0 := by unfold totL; rfl
   have hfirst : ∃ n, n < ts.length ∧ (∀ i, i ≤ n → 0 ≤ m - ts.length - totL (ts.take i)) ∧ m - ts.length - totL (ts.take (n + 1)) < 0 := by
    have key : ∀ k, k ≤ ts.length → (∀ i, i ≤ k → 0 ≤ m - ts.length - totL (ts.take i)) ∨ ∃ n, n < k ∧ (∀ i, i ≤ n → 0 ≤ m - ts.length - totL (ts.take i)) ∧ m - ts.length - totL (ts.take (n + 1)) < 0 := by
     intro k
     induction k with
     | zero =>
      intro _;refine .inl fun i hi => ?_
      have : i = 0 := by omega
      subst this;rw [List.take_zero, e0];omega
     | succ k ih =>
      intro hk
      rcases ih (by omega) with h | ⟨n, a, b, c⟩
      ·by_cases hq : 0 ≤ m - ts.length - totL (ts.take (k + 1))
       ·refine .inl fun i hi => ?_
        rcases Nat.lt_or_ge i (k + 1) with h' | h'
        ·exact h i (by omega)
        ·have : i = k + 1 := by omega
         subst this;exact hq
       ·exact .inr ⟨k, by omega, h, by omega⟩
      ·exact .inr ⟨n, by omega, b, c⟩
    rcases key ts.length (by omega) with h | h
    ·have := h ts.length (by omega)
     rw [List.take_length] at this;exact absurd this hall
    ·exact h
   obtain ⟨n, hn1, hn2, hn3⟩ := hfirst;have k := iter_to (body := tbody 2 (S141L0 G (tl ts))) (n := n) (f := ts.length + 1) (l := 1) (ds := [.int (-1)])
    (fun i => [.int (m - ts.length - totL (ts.take i)), .int (i : Int)]) (by omega) (fun i hi => hgo i (by omega) (hn2 (i + 1) (by omega))) ?_
   ·simpa [e0] using k
   ·refine tb rfl ?_
    have ht := totL_take ts n hn1;have hf := hstep n hn1 (hn2 n (by omega))
    have e : szP (m - ts.length - totL (ts.take n)) ts[n].length = -1 := by unfold szP;rw [if_pos (by omega)]
    rw [e] at hf;have hlt : decide ((n : Int) < (ts.length : Int)) = true := by simpa using hn1
    have hx := idx_tl hn1;unfold S141L0
    repeat' first
     | with_reducible refine st_ift ?_
     | ((with_reducible apply st_call); exact g140; exact rfl; exact hf; exact rfl)
     | ((with_reducible apply st_some); exact hn)
     | ((with_reducible apply st_some); exact hx)
     | ((with_reducible apply st_t); exact rfl; exact rfl)
     | ((with_reducible apply st_t); exact rfl; assumption)
     | exact rfl
  repeat' first
   | with_reducible refine st_iff ?_
   | ((with_reducible apply st_out); exact hloop)
   | ((with_reducible apply st_some); exact hn)
   | ((with_reducible apply st_some); exact hw)
   | ((with_reducible apply st_f); exact rfl; assumption)
   | exact rfl
theorem run142 {G : Told} (g120 : G 120 = F120) (g141 : G 141 = F141) : Runs G F142 T142 := by
 intro ds rs h
 unfold F142 at h
 split at h
 case h_2 => cases h
 rename_i a b m
 obtain ⟨vs, ha, h⟩ := Option.bind_eq_some_iff.1 h
 obtain ⟨ts, hb, h⟩ := Option.bind_eq_some_iff.1 h
 rw [dV_inv ha, dT_inv hb]
 split at h
 case isFalse => cases h
 rename_i hc
 simp only [Option.some.injEq] at h
 subst h
 obtain ⟨rfl, h0, h1, h2⟩ := hc
 refine ⟨0, ?_⟩
 rw [eq142]
 unfold S142
 have z1 : F120 [vl vs, .int 1048576] = some [.int (if (1048576 : Int) - vs.length < 0 then -1 else 1048576 - vs.length)] := by unfold vl;simp only [F120, List.length_map];rw [if_pos ⟨by omega, by omega, h0⟩]
 have hz : szM vs ts = vs.length + ts.length + totL ts := by unfold szM; rfl
 rw [hz]
 by_cases c1 : (1048576 : Int) - vs.length < 0
 ·rw [if_pos c1] at z1
  have e : szP 1048576 (vs.length + ts.length + totL ts) = -1 := by unfold szP;rw [if_pos (by omega)]
  rw [e]
  repeat' first
   | with_reducible refine st_ift ?_
   | ((with_reducible apply st_call); exact g120; exact rfl; exact z1; exact rfl)
   | ((with_reducible apply st_t); exact rfl; exact rfl)
   | exact rfl
 ·rw [if_neg c1] at z1
  have d1 : decide ((1048576 : Int) - vs.length < 0) = false := by simpa using c1
  have z2 : F141 [tl ts, .int (1048576 - vs.length)] = some [.int (szP (1048576 - vs.length) (ts.length + totL ts))] := by simp only [F141, dT_tl, Option.bind_some];rw [if_pos ⟨by omega, by omega, h1, h2⟩]
  by_cases c2 : (1048576 : Int) - (vs.length + ts.length + totL ts : Nat) < 0
  ·have e : szP 1048576 (vs.length + ts.length + totL ts) = -1 := by unfold szP;rw [if_pos c2]
   have e2 : szP (1048576 - vs.length) (ts.length + totL ts) = -1 := by unfold szP;rw [if_pos (by omega)]
   rw [e];rw [e2] at z2
   repeat' first
    | with_reducible refine st_ift ?_
    | with_reducible refine st_iff ?_
    | ((with_reducible apply st_call); exact g120; exact rfl; exact z1; exact rfl)
    | ((with_reducible apply st_call); exact g141; exact rfl; exact z2; exact rfl)
    | ((with_reducible apply st_t); exact rfl; exact rfl)
    | ((with_reducible apply st_f); exact rfl; assumption)
    | exact rfl
  ·have e : szP 1048576 (vs.length + ts.length + totL ts) = 1048576 - (vs.length + ts.length + totL ts : Nat) := by unfold szP;rw [if_neg c2]
   have e2 : szP (1048576 - vs.length) (ts.length + totL ts) = 1048576 - (vs.length + ts.length + totL ts : Nat) := by
    unfold szP;rw [if_neg (by omega)]
    omega
   rw [e];rw [e2] at z2;have d2 : decide ((1048576 : Int) - (vs.length + ts.length + totL ts : Nat) < 0) = false := by simpa using c2
   repeat' first
    | with_reducible refine st_iff ?_
    | ((with_reducible apply st_call); exact g120; exact rfl; exact z1; exact rfl)
    | ((with_reducible apply st_call); exact g141; exact rfl; exact z2; exact rfl)
    | ((with_reducible apply st_f); exact rfl; assumption)
    | exact rfl
theorem run143 {G : Told} : Runs G F143 T143 := by
 intro ds rs h
 unfold F143 at h
 split at h
 case h_2 => cases h
 rename_i a
 obtain ⟨l, ha, h⟩ := Option.bind_eq_some_iff.1 h
 rw [dI_inv ha]
 split at h
 case isFalse => cases h
 rename_i hc
 simp only [Option.some.injEq] at h
 subst h
 refine ⟨l.length + 1, ?_⟩
 rw [eq143]
 unfold S143
 have hr : gev none .rep [.int (l.length : Int), .int 0] = some (il (List.replicate l.length 0)) := by
  simp only [gev, gok, if_true, Prim.ev, il];rw [if_pos (by omega)]
  simp
 have hl : (List.replicate l.length (0 : Int)).length = l.length := by simp
 generalize List.replicate l.length (0 : Int) = z at hr hl
 have hn := len_il (l := l)
 have hloop : iter (tbody 2 (S143L0 G (il l))) (l.length + 1) [il z, .int 0] = some (0, [il l, .int (l.length : Int), .int (l.length : Int), .int (l.length : Int), .bool false]) := by
  have h1 := iter_upto (body := tbody 2 (S143L0 G (il l))) (n := l.length) (l := 0) (ds := [il l, .int (l.length : Int), .int (l.length : Int), .int (l.length : Int), .bool false])
   (fun i => [il (l.take i ++ z.drop i), .int (i : Int)]) ?_ ?_
  ·simpa using h1
  ·intro i hi
   refine tb rfl ?_;have h0 : decide ((i : Int) < (l.length : Int)) = true := by simpa using hi
   have hx := idx_il hi;have hml := mix_len (a := l) (b := z) (i := i) hl.symm (by omega)
   have hy := idx_il (l := l.take i ++ z.drop i) (i := i) (by omega)
   have hs := set_il (l := l.take i ++ z.drop i) (i := i) (v := l[i]) (by omega)
   rw [mix_set hl.symm hi] at hs;have ha := add1n (i := i) (by omega)
   unfold S143L0
   repeat' first
    | with_reducible refine st_ift ?_
    | ((with_reducible apply st_some); exact hx)
    | ((with_reducible apply st_some); exact hy)
    | ((with_reducible apply st_some); exact hs)
    | ((with_reducible apply st_some); exact ha)
    | ((with_reducible apply st_some); exact hn)
    | ((with_reducible apply st_t); exact rfl; assumption)
    | exact rfl
  ·refine tb rfl ?_
   have h0 : decide ((l.length : Int) < (l.length : Int)) = false := by simp
   have e : l.take l.length ++ z.drop l.length = l := by rw [← hl]; simp [hl]
   rw [e];unfold S143L0
   repeat' first
    | with_reducible refine st_iff ?_
    | ((with_reducible apply st_some); exact hn)
    | ((with_reducible apply st_f); exact rfl; assumption)
    | exact rfl
 repeat' first
  | ((with_reducible apply st_join); exact hloop; exact rfl)
  | ((with_reducible apply st_some); exact hn)
  | ((with_reducible apply st_some); exact hr)
  | exact rfl
theorem run143s {G : Told} : Runs G F143 T143s := by
 intro ds rs h
 unfold F143 at h
 split at h
 case h_2 => cases h
 rename_i a
 obtain ⟨l, ha, h⟩ := Option.bind_eq_some_iff.1 h
 rw [dI_inv ha]
 split at h
 case isFalse => cases h
 rename_i hc
 simp only [Option.some.injEq] at h
 subst h
 refine ⟨0, ?_⟩
 rw [eq143s]
 unfold S143s
 have e0 : il [] = .lst [] := by unfold il; rfl
 have ha := app_il (l := []) (m := l) (by simpa using hc)
 rw [e0] at ha
 repeat' first
  | ((with_reducible apply st_some); exact ha)
  | ((with_reducible apply st_some); exact rfl)
  | exact rfl
theorem run144 {G : Told} (g143 : G 143 = F143) : Runs G F144 T144 := by
 intro ds rs h
 unfold F144 at h
 split at h
 case h_2 => cases h
 rename_i a
 obtain ⟨l, ha, h⟩ := Option.bind_eq_some_iff.1 h
 rw [dT_inv ha]
 split at h
 case isFalse => cases h
 rename_i hc
 simp only [Option.some.injEq] at h
 subst h
 refine ⟨l.length + 1, ?_⟩
 rw [eq144]
 unfold S144
 have e0 : il [] = .lst [] := by unfold il; rfl
 have hr : gev none .rep [.int (l.length : Int), .lst []] = some (tl (List.replicate l.length [])) := by
  simp only [gev, gok, if_true, Prim.ev, tl];rw [if_pos (by omega)]
  simp [e0]
 have hl : (List.replicate l.length ([] : List Int)).length = l.length := by simp
 generalize List.replicate l.length ([] : List Int) = z at hr hl
 have hn := len_tl (l := l)
 have hloop : iter (tbody 2 (S144L0 G (tl l))) (l.length + 1) [tl z, .int 0] = some (0, [tl l, .int (l.length : Int), .int (l.length : Int), .int (l.length : Int), .bool false]) := by
  have h1 := iter_upto (body := tbody 2 (S144L0 G (tl l))) (n := l.length) (l := 0) (ds := [tl l, .int (l.length : Int), .int (l.length : Int), .int (l.length : Int), .bool false])
   (fun i => [tl (l.take i ++ z.drop i), .int (i : Int)]) ?_ ?_
  ·simpa using h1
  ·intro i hi
   refine tb rfl ?_;have h0 : decide ((i : Int) < (l.length : Int)) = true := by simpa using hi
   have hx := idx_tl hi;have hml := mix_len (a := l) (b := z) (i := i) hl.symm (by omega)
   have hy := idx_tl (l := l.take i ++ z.drop i) (i := i) (by omega)
   have hs := set_tl (l := l.take i ++ z.drop i) (i := i) (v := l[i]) (by omega)
   rw [mix_set hl.symm hi] at hs;have ha := add1n (i := i) (by omega)
   have hle := len_le_totL hi;have hf : F143 [il l[i]] = some [il l[i]] := by simp only [F143, dI_il, Option.bind_some];rw [if_pos (by omega)]
   unfold S144L0
   repeat' first
    | with_reducible refine st_ift ?_
    | ((with_reducible apply st_call); exact g143; exact rfl; exact hf; exact rfl)
    | ((with_reducible apply st_some); exact hx)
    | ((with_reducible apply st_some); exact hy)
    | ((with_reducible apply st_some); exact hs)
    | ((with_reducible apply st_some); exact ha)
    | ((with_reducible apply st_some); exact hn)
    | ((with_reducible apply st_t); exact rfl; assumption)
    | exact rfl
  ·refine tb rfl ?_
   have h0 : decide ((l.length : Int) < (l.length : Int)) = false := by simp
   have e : l.take l.length ++ z.drop l.length = l := by rw [← hl]; simp [hl]
   rw [e];unfold S144L0
   repeat' first
    | with_reducible refine st_iff ?_
    | ((with_reducible apply st_some); exact hn)
    | ((with_reducible apply st_f); exact rfl; assumption)
    | exact rfl
 repeat' first
  | ((with_reducible apply st_join); exact hloop; exact rfl)
  | ((with_reducible apply st_some); exact hn)
  | ((with_reducible apply st_some); exact hr)
  | exact rfl
theorem run145 {G : Told} (g121 : G 121 = F121) (g144 : G 144 = F144) : Runs G F145 T145 := by
 intro ds rs h
 unfold F145 at h
 split at h
 case h_2 => cases h
 rename_i a b
 obtain ⟨vs, ha, h⟩ := Option.bind_eq_some_iff.1 h
 obtain ⟨ts, hb, h⟩ := Option.bind_eq_some_iff.1 h
 rw [dV_inv ha, dT_inv hb]
 split at h
 case isFalse => cases h
 rename_i hc
 have hz : szM vs ts = vs.length + ts.length + totL ts := by unfold szM; rfl
 simp only [Option.some.injEq] at h
 subst h
 refine ⟨0, ?_⟩
 rw [eq145]
 unfold S145
 have h1 := F121_vl (vs := vs) (by omega)
 have h2 : F144 [tl ts] = some [tl ts] := by simp only [F144, dT_tl, Option.bind_some];rw [if_pos (by omega)]
 repeat' first
  | ((with_reducible apply st_call); exact g121; exact rfl; exact h1; exact rfl)
  | ((with_reducible apply st_call); exact g144; exact rfl; exact h2; exact rfl)
  | exact rfl
theorem F100_il {l : List Int} (h : l.length ≤ 1048576) : F100 [il l, il l] = some [.bool true] := by
 unfold il
 simp only [F100]
 rw [if_pos ⟨trivial, by simp [isI], by simp; omega⟩]
theorem F101_tl {ts : List (List Int)} (h : ts.length + totL ts ≤ 1048576) : F101 [tl ts, tl ts] = some [.bool true] := by
 unfold tl
 simp only [F101]
 refine if_pos ⟨rfl, fun x hx => ?_, by simp; omega⟩
 obtain ⟨t, ht, rfl⟩ := List.mem_map.1 hx
 obtain ⟨i, hi, rfl⟩ := List.getElem_of_mem ht
 have := len_le_totL hi
 exact F100_il (by omega)
theorem tot_map (ts : List (List Int)) : tot (ts.map fun t => t.map D.int) = totL ts := by
 unfold totL
 induction ts with
 | nil => rfl
 | cons t ts ih => simp [tot, ih]
theorem unL_tl (ts : List (List Int)) : (ts.map il).map unL = ts.map fun t => t.map D.int := by
 unfold il
 simp [unL]
theorem isL_tl (ts : List (List Int)) : (ts.map il).all isL = true := by
 unfold il
 simp [isL]
theorem F103_tl {ts : List (List Int)} {m : Int} (h : ts.length + totL ts ≤ 1048576) (h0 : 0 ≤ m) (h1 : m ≤ 1099511627776) : F103 [tl ts, .int m] = some [.int (m + totL ts), marksT m ts] := by
 unfold tl
 simp only [F103, unL_tl, tot_map]
 rw [if_pos ⟨isL_tl ts, h0, by omega, by simp; omega⟩]
 unfold marksT
 rfl
theorem F105_tl {ts : List (List Int)} {m : Int} (h : ts.length + totL ts ≤ 1048576) (h0 : 0 ≤ m) (h1 : m ≤ 1099511627776) : F105 [marksT m ts, .int m] = some [.int (m + totL ts)] := by
 have e : ((mks m (ts.map fun t => t.map D.int)).map D.lst).map unL = mks m (ts.map fun t => t.map D.int) := by rw [List.map_map];exact List.map_id'' (fun _ => rfl) _
 unfold marksT
 simp only [F105, e, tot_mks, tot_map, mks_idem]
 rw [if_pos ⟨by simp [isL], trivial, h0, by omega, by simp [mks_length]; omega⟩]
theorem run146 {G : Told} (g127 : G 127 = F127) (g101 : G 101 = F101) : Runs G F146 T146 := by
 intro ds rs h
 unfold F146 at h
 split at h
 case h_2 => cases h
 rename_i a b c d
 obtain ⟨vs, ha, h⟩ := Option.bind_eq_some_iff.1 h
 obtain ⟨ts, hb, h⟩ := Option.bind_eq_some_iff.1 h
 split at h
 case isFalse => cases h
 rename_i hc
 simp only [Option.some.injEq] at h
 subst h
 obtain ⟨hc, rfl, rfl⟩ := hc
 rw [dV_inv ha, dT_inv hb]
 have hz : szM vs ts = vs.length + ts.length + totL ts := by unfold szM; rfl
 refine ⟨0, ?_⟩
 rw [eq146]
 unfold S146
 have h1 := F127_vl (vs := vs) (by omega)
 have h2 := F101_tl (ts := ts) (by omega)
 repeat' first
  | with_reducible refine st_iff ?_
  | ((with_reducible apply st_call); exact g127; exact rfl; exact h1; exact rfl)
  | ((with_reducible apply st_call); exact g101; exact rfl; exact h2; exact rfl)
  | ((with_reducible apply st_f); exact rfl; exact rfl)
  | exact rfl
theorem run147 {G : Told} (g128 : G 128 = F128) (g103 : G 103 = F103) : Runs G F147 T147 := by
 intro ds rs h
 unfold F147 at h
 split at h
 case h_2 => cases h
 rename_i a b m
 obtain ⟨vs, ha, h⟩ := Option.bind_eq_some_iff.1 h
 obtain ⟨ts, hb, h⟩ := Option.bind_eq_some_iff.1 h
 rw [dV_inv ha, dT_inv hb]
 split at h
 case isFalse => cases h
 rename_i hc
 obtain ⟨hc, hm0, hm1⟩ := hc
 have hz : szM vs ts = vs.length + ts.length + totL ts := by unfold szM; rfl
 simp only [Option.some.injEq] at h
 subst h
 refine ⟨0, ?_⟩
 rw [eq147]
 unfold S147
 have h1 := F128_vl (vs := vs) (m := m) (by omega) (by omega) (by omega)
 have h2 := F103_tl (ts := ts) (m := m + 3 * vs.length) (by omega) (by omega) (by omega)
 repeat' first
  | ((with_reducible apply st_call); exact g128; exact rfl; exact h1; exact rfl)
  | ((with_reducible apply st_call); exact g103; exact rfl; exact h2; exact rfl)
  | exact rfl
theorem run148 {G : Told} (g129 : G 129 = F129) (g105 : G 105 = F105) : Runs G F148 T148 := by
 intro ds rs h
 unfold F148 at h
 split at h
 case h_2 => cases h
 rename_i a b m
 split at h
 case isFalse => cases h
 rename_i hc
 simp only [Option.some.injEq] at h
 subst h
 have hs := hc.choose_spec.choose_spec
 generalize hc.choose_spec.choose = ts at hs
 generalize hc.choose = vs at hs
 obtain ⟨hs, rfl, rfl, hm0, hm1⟩ := hs
 have hz : szM vs ts = vs.length + ts.length + totL ts := by unfold szM; rfl
 refine ⟨0, ?_⟩
 rw [eq148]
 unfold S148
 have h1 := F129_vl (n := vs.length) (m := m) (by omega) (by omega) (by omega)
 have h2 := F105_tl (ts := ts) (m := m + 3 * vs.length) (by omega) (by omega) (by omega)
 have d1 : decide (m + 3 * (vs.length : Int) < 0) = false := by simp; omega
 have d2 : decide (m + 3 * (vs.length : Int) + totL ts < 0) = false := by simp; omega
 repeat' first
  | with_reducible refine st_iff ?_
  | ((with_reducible apply st_call); exact g129; exact rfl; exact h1; exact rfl)
  | ((with_reducible apply st_call); exact g105; exact rfl; exact h2; exact rfl)
  | ((with_reducible apply st_f); exact rfl; assumption)
  | exact rfl
theorem F148_m {vs : List V3} {ts : List (List Int)} {m : Int} (h : szM vs ts ≤ 1048576) (h0 : 0 ≤ m) (h1 : m ≤ 1048576) : F148 [vl (marksV m vs.length), marksT (m + 3 * vs.length) ts, .int m] = some [.int (m + 3 * vs.length + totL ts)] := by
 have hx : ∃ us ss, szM us ss ≤ 1048576 ∧ vl (marksV m vs.length) = vl (marksV m us.length) ∧ marksT (m + 3 * vs.length) ts = marksT (m + 3 * us.length) ss ∧ 0 ≤ m ∧ m ≤ 1048576 := ⟨vs, ts, h, rfl, rfl, h0, h1⟩
 simp only [F148]
 rw [dif_pos hx]
 have hs := hx.choose_spec.choose_spec
 generalize hx.choose_spec.choose = ss at hs
 generalize hx.choose = us at hs
 obtain ⟨_, e1, e2, _, _⟩ := hs
 have e1 := vl_inj e1
 have n1 : vs.length = us.length := by have := congrArg List.length e1;rwa [marksV_length, marksV_length] at this
 have n2 : totL ts = totL ss := by
  unfold marksT at e2;have e3 := D.lst.inj e2;have e4 := congrArg (List.map unL) e3;rw [List.map_map, List.map_map] at e4;have key : ∀ l : List (List D), l.map (unL ∘ D.lst) = l := fun l => List.map_id'' (fun _ => rfl) l
  rw [key, key] at e4;have e5 := congrArg tot e4;rwa [tot_mks, tot_mks, tot_map, tot_map] at e5
 rw [n1, n2]
end Vs
