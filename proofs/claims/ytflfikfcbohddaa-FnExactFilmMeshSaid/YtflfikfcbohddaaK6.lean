/-
  Meshes: lists of vectors beside lists of lists of whole numbers; what laws do with them; copies; which are valid.
-/
import Derived.Test.YtflfikfcbohddaaK5
import Derived.Test.YtflfikfcbohddaaE
namespace Vs
open Go

/-! ### Lists of whole numbers, lists of these -/
def il (l : List Int) : D := .lst (l.map .int)
def tl (l : List (List Int)) : D := .lst (l.map il)
def unint : D → Int | .int n => n | _ => 0
def unil : D → List Int | .lst l => l.map unint | _ => []
theorem unint_int (l : List Int) : (l.map D.int).map unint = l := by
  rw [List.map_map]
  exact List.map_id'' (fun _ => rfl) l
theorem unil_il (l : List Int) : unil (il l) = l := by simp only [unil, il, unint_int]
theorem untl (l : List (List Int)) : (l.map il).map unil = l := by
  rw [List.map_map]
  exact List.map_id'' unil_il l
open Classical in
noncomputable def dV : D → Option (List V3)
  | .lst a => if a = (a.map unvec).map vec then some (a.map unvec) else none
  | _ => none
open Classical in
noncomputable def dI : D → Option (List Int)
  | .lst a => if a = (a.map unint).map .int then some (a.map unint) else none
  | _ => none
open Classical in
noncomputable def dT : D → Option (List (List Int))
  | .lst a => if a = (a.map unil).map il then some (a.map unil) else none
  | _ => none
theorem dV_vl (l : List V3) : dV (vl l) = some l := by
  simp only [dV, vl]
  rw [if_pos (by rw [unvl]), unvl]
theorem dI_il (l : List Int) : dI (il l) = some l := by
  simp only [dI, il]
  rw [if_pos (by rw [unint_int]), unint_int]
theorem dT_tl (l : List (List Int)) : dT (tl l) = some l := by
  simp only [dT, tl]
  rw [if_pos (by rw [untl]), untl]
theorem dV_inv {d : D} {l : List V3} (h : dV d = some l) : d = vl l := by
  unfold dV at h
  split at h
  · split at h
    · rename_i hc
      cases h
      rw [vl, ← hc]
    · cases h
  · cases h
theorem dI_inv {d : D} {l : List Int} (h : dI d = some l) : d = il l := by
  unfold dI at h
  split at h
  · split at h
    · rename_i hc
      cases h
      rw [il, ← hc]
    · cases h
  · cases h
theorem dT_inv {d : D} {l : List (List Int)} (h : dT d = some l) : d = tl l := by
  unfold dT at h
  split at h
  · split at h
    · rename_i hc
      cases h
      rw [tl, ← hc]
    · cases h
  · cases h

theorem idx_il {l : List Int} {i : Nat} (h : i < l.length) : gev none .idx [il l, .int i] = some (.int l[i]) := by
  have h2 : (i : Int) < ((l.map D.int).length : Int) := by simp; omega
  simp only [gev, gok, if_true, Prim.ev, il]
  rw [if_pos ⟨by omega, h2⟩]
  simp [h]
theorem len_il {l : List Int} : gev none .len [il l] = some (.int (l.length : Int)) := by simp [gev, gok, Prim.ev, il]
theorem idx_tl {l : List (List Int)} {i : Nat} (h : i < l.length) : gev none .idx [tl l, .int i] = some (il l[i]) := by
  have h2 : (i : Int) < ((l.map il).length : Int) := by simp; omega
  simp only [gev, gok, if_true, Prim.ev, tl]
  rw [if_pos ⟨by omega, h2⟩]
  simp [h]
theorem len_tl {l : List (List Int)} : gev none .len [tl l] = some (.int (l.length : Int)) := by simp [gev, gok, Prim.ev, tl]
/-! ### Loops -/
theorem iter_to {body : List D → Option (Nat × List D)} (s : Nat → List D) {n f l : Nat} {ds : List D} (hf : n < f) (hs : ∀ i, i < n → body (s i) = some (0, s (i + 1))) (he : body (s n) = some (l + 1, ds)) :
    iter body f (s 0) = some (l, ds) :=
  iter_mono (fun _ _ h => h) (iter_upto s hs he) hf
theorem iter_bad {body : List D → Option (Nat × List D)} (s : Nat → List D) (good : Nat → Prop) {n f l : Nat} {ds : List D} (hf : n ≤ f) (hs : ∀ i, i < n → good i → body (s i) = some (0, s (i + 1)))
    (hb : ∀ i, i < n → ¬ good i → body (s i) = some (l + 1, ds)) (hx : ∃ i, i < n ∧ ¬ good i) : iter body f (s 0) = some (l, ds) := by
  have key : ∀ (k i : Nat), i + k = n → (∃ j, i ≤ j ∧ j < n ∧ ¬ good j) → iter body (k + (f - n)) (s i) = some (l, ds) := by
    intro k
    induction k with
    | zero =>
      intro i hi ⟨j, h1, h2, _⟩
      omega
    | succ k ih =>
      intro i hi ⟨j, h1, h2, h3⟩
      by_cases hg : good i
      · rw [show k + 1 + (f - n) = (k + (f - n)) + 1 from by omega]
        refine iter_go (hs i (by omega) hg) (ih (i + 1) (by omega) ⟨j, ?_, h2, h3⟩)
        rcases Nat.lt_or_ge i j with h | h
        · exact h
        · have : i = j := by omega
          subst this
          exact absurd hg h3
      · rw [show k + 1 + (f - n) = (k + (f - n)) + 1 from by omega]
        exact iter_end (hb i (by omega) hg) rfl
  obtain ⟨j, h1, h2⟩ := hx
  have := key n 0 (by omega) ⟨j, by omega, h1, h2⟩
  rwa [show n + (f - n) = f from by omega] at this

/-! ### Sizes -/
def totL (ts : List (List Int)) : Nat := (ts.map List.length).sum
def szM (vs : List V3) (ts : List (List Int)) : Nat := vs.length + ts.length + totL ts
theorem totL_take (ts : List (List Int)) (i : Nat) (h : i < ts.length) : totL (ts.take (i + 1)) = totL (ts.take i) + ts[i].length := by
  unfold totL
  rw [take_step h, List.map_append, List.sum_append]
  simp
theorem totL_le (ts : List (List Int)) (i : Nat) : totL (ts.take i) ≤ totL ts := by
  have : totL ts = totL (ts.take i) + totL (ts.drop i) := by
    rw [totL, totL, totL, ← List.sum_append, ← List.map_append, List.take_append_drop]
  omega
theorem len_le_totL {ts : List (List Int)} {i : Nat} (h : i < ts.length) : ts[i].length ≤ totL ts := by
  have h1 := totL_take ts i h
  have h2 := totL_le ts (i + 1)
  omega

open Classical in
noncomputable def F146 : List D → Option (List D)
  | [a, b, c, d] => (dV a).bind fun vs => (dT b).bind fun ts => if szM vs ts ≤ 1048576 ∧ c = a ∧ d = b then some [.bool true] else none
  | _ => none
/-- Marks in triangles. -/
def marksT (m : Int) (ts : List (List Int)) : D := .lst ((mks m (ts.map fun t => t.map D.int)).map D.lst)
noncomputable def F147 : List D → Option (List D)
  | [a, b, .int m] => (dV a).bind fun vs => (dT b).bind fun ts => if szM vs ts ≤ 1048576 ∧ 0 ≤ m ∧ m ≤ 1048576 then some [.int (m + 3 * vs.length + totL ts), vl (marksV m vs.length), marksT (m + 3 * vs.length) ts] else none
  | _ => none
open Classical in
noncomputable def F148 : List D → Option (List D)
  | [a, b, .int m] => if h : ∃ vs ts, szM vs ts ≤ 1048576 ∧ a = vl (marksV m vs.length) ∧ b = marksT (m + 3 * vs.length) ts ∧ 0 ≤ m ∧ m ≤ 1048576 then some [.int (m + 3 * h.choose.length + totL h.choose_spec.choose)] else none
  | _ => none

/-! ### Valid meshes -/
def inr (n : Int) (p : Int) : Bool := decide (0 ≤ p) && decide (p ≤ n - 1)
def triP (n : Int) : List Int → Bool
  | [a, b, c] => !(a == b) && !(b == c) && !(a == c) && [a, b, c].all (inr n)
  | _ => false
def validP (n : Nat) (ts : List (List Int)) : Bool := decide (n ≤ 64) && decide (ts.length ≤ 128) && ts.all (triP n)
noncomputable def F149 : List D → Option (List D)
  | [a, .int n] => (dI a).bind fun l => if 0 ≤ n ∧ n ≤ 1048576 ∧ l.length ≤ 1048576 then some [.bool (triP n l)] else none
  | _ => none
noncomputable def F150 : List D → Option (List D)
  | [a, b] => (dV a).bind fun vs => (dT b).bind fun ts => if szM vs ts ≤ 1048576 then some [.bool (validP vs.length ts)] else none
  | _ => none
theorem F146_m {vs : List V3} {ts : List (List Int)} (h : szM vs ts ≤ 1048576) : F146 [vl vs, tl ts, vl vs, tl ts] = some [.bool true] := by simp [F146, dV_vl, dT_tl, h]
theorem F147_m {vs : List V3} {ts : List (List Int)} {m : Int} (h : szM vs ts ≤ 1048576) (h0 : 0 ≤ m) (h1 : m ≤ 1048576) : F147 [vl vs, tl ts, .int m] = some [.int (m + 3 * vs.length + totL ts), vl (marksV m vs.length), marksT (m + 3 * vs.length) ts] := by
  simp [F147, dV_vl, dT_tl, h, h0, h1]
theorem F150_m {vs : List V3} {ts : List (List Int)} (h : szM vs ts ≤ 1048576) : F150 [vl vs, tl ts] = some [.bool (validP vs.length ts)] := by simp [F150, dV_vl, dT_tl, h]

def T146 : T :=
(.call none 127 [(.v 0), (.v 2)] 1 <|
(.op none .bnot [(.v 4)] <|
(.ite (.v 5)
  (.out 0 [(.c (.bool false))])
  (.call none 101 [(.v 1), (.v 3)] 1 <|
  (.op none .bnot [(.v 6)] <|
  (.ite (.v 7)
    (.out 0 [(.c (.bool false))])
    (.out 0 [(.c (.bool true))])))))))
def S146 (G : Told) (_fuel : Nat) (x0 x1 x2 x3 : D) : Option (Nat × List D) :=
  (gcall G none 127 [x0, x2] 1).bind fun e4 =>
  (gev none .bnot [(e4.getD 0 .undef)]).bind fun x5 =>
  tif x5 (
    some (0, [(.bool false)])) (
    (gcall G none 101 [x1, x3] 1).bind fun e6 =>
    (gev none .bnot [(e6.getD 0 .undef)]).bind fun x7 =>
    tif x7 (
      some (0, [(.bool false)])) (
      some (0, [(.bool true)])))
theorem eq146 {G : Told} {fuel : Nat} (x0 x1 x2 x3 : D) : run G fuel T146 [x0, x1, x2, x3] = S146 G fuel x0 x1 x2 x3 := by
  rw [run_eq]; kernel_rfl

def T147 : T :=
(.call none 128 [(.v 0), (.v 2)] 2 <|
(.call none 103 [(.v 1), (.v 3)] 2 <|
(.out 0 [(.v 5), (.v 4), (.v 6)])))
def S147 (G : Told) (_fuel : Nat) (x0 x1 x2 : D) : Option (Nat × List D) :=
  (gcall G none 128 [x0, x2] 2).bind fun e3 =>
  (gcall G none 103 [x1, (e3.getD 0 .undef)] 2).bind fun e5 =>
  some (0, [(e5.getD 0 .undef), (e3.getD 1 .undef), (e5.getD 1 .undef)])
theorem eq147 {G : Told} {fuel : Nat} (x0 x1 x2 : D) : run G fuel T147 [x0, x1, x2] = S147 G fuel x0 x1 x2 := by
  rw [run_eq]; kernel_rfl

def T148 : T :=
(.call none 129 [(.v 0), (.v 2)] 1 <|
(.op none (.icm .lss) [(.v 3), (.c (.int 0))] <|
(.ite (.v 4)
  (.out 0 [(.c (.int (-1)))])
  (.call none 105 [(.v 1), (.v 3)] 1 <|
  (.op none (.icm .lss) [(.v 5), (.c (.int 0))] <|
  (.ite (.v 6)
    (.out 0 [(.c (.int (-1)))])
    (.out 0 [(.v 5)])))))))
def S148 (G : Told) (_fuel : Nat) (x0 x1 x2 : D) : Option (Nat × List D) :=
  (gcall G none 129 [x0, x2] 1).bind fun e3 =>
  (gev none (.icm .lss) [(e3.getD 0 .undef), (.int 0)]).bind fun x4 =>
  tif x4 (
    some (0, [(.int (-1))])) (
    (gcall G none 105 [x1, (e3.getD 0 .undef)] 1).bind fun e5 =>
    (gev none (.icm .lss) [(e5.getD 0 .undef), (.int 0)]).bind fun x6 =>
    tif x6 (
      some (0, [(.int (-1))])) (
      some (0, [(e5.getD 0 .undef)])))
theorem eq148 {G : Told} {fuel : Nat} (x0 x1 x2 : D) : run G fuel T148 [x0, x1, x2] = S148 G fuel x0 x1 x2 := by
  rw [run_eq]; kernel_rfl

def T149 : T :=
(.op none .len [(.v 0)] <|
(.op none (.icm .neq) [(.v 2), (.c (.int 3))] <|
(.op (some ((.v 3), false)) .id [(.v 0)] <|
(.op (some ((.v 3), false)) .idx [(.v 4), (.c (.int 0))] <|
(.op (some ((.v 3), false)) .id [(.v 5)] <|
(.op (some ((.v 3), false)) .id [(.v 0)] <|
(.op (some ((.v 3), false)) .idx [(.v 7), (.c (.int 1))] <|
(.op (some ((.v 3), false)) .id [(.v 8)] <|
(.op (some ((.v 3), false)) (.icm .eql) [(.v 6), (.v 9)] <|
(.op none .pick [(.v 3), (.c (.bool true)), (.v 10)] <|
(.op (some ((.v 11), false)) .id [(.v 0)] <|
(.op (some ((.v 11), false)) .idx [(.v 12), (.c (.int 1))] <|
(.op (some ((.v 11), false)) .id [(.v 13)] <|
(.op (some ((.v 11), false)) .id [(.v 0)] <|
(.op (some ((.v 11), false)) .idx [(.v 15), (.c (.int 2))] <|
(.op (some ((.v 11), false)) .id [(.v 16)] <|
(.op (some ((.v 11), false)) (.icm .eql) [(.v 14), (.v 17)] <|
(.op none .pick [(.v 11), (.c (.bool true)), (.v 18)] <|
(.op (some ((.v 19), false)) .id [(.v 0)] <|
(.op (some ((.v 19), false)) .idx [(.v 20), (.c (.int 0))] <|
(.op (some ((.v 19), false)) .id [(.v 21)] <|
(.op (some ((.v 19), false)) .id [(.v 0)] <|
(.op (some ((.v 19), false)) .idx [(.v 23), (.c (.int 2))] <|
(.op (some ((.v 19), false)) .id [(.v 24)] <|
(.op (some ((.v 19), false)) (.icm .eql) [(.v 22), (.v 25)] <|
(.op none .pick [(.v 19), (.c (.bool true)), (.v 26)] <|
(.ite (.v 27)
  (.out 0 [(.c (.bool false))])
  (.op none .idx [(.v 0), (.c (.int 0))] <|
  (.op none (.iar .sub .i64) [(.v 1), (.c (.int 1))] <|
  (.call none 19 [(.v 28), (.c (.int 0)), (.v 29)] 1 <|
  (.op (some ((.v 30), true)) .id [(.v 0)] <|
  (.op (some ((.v 30), true)) .idx [(.v 31), (.c (.int 1))] <|
  (.op (some ((.v 30), true)) .id [(.v 32)] <|
  (.op (some ((.v 30), true)) .id [(.v 1)] <|
  (.op (some ((.v 30), true)) (.iar .sub .i64) [(.v 34), (.c (.int 1))] <|
  (.call (some ((.v 30), true)) 19 [(.v 33), (.c (.int 0)), (.v 35)] 1 <|
  (.op none .pick [(.v 30), (.v 36), (.c (.bool false))] <|
  (.op (some ((.v 37), true)) .id [(.v 0)] <|
  (.op (some ((.v 37), true)) .idx [(.v 38), (.c (.int 2))] <|
  (.op (some ((.v 37), true)) .id [(.v 39)] <|
  (.op (some ((.v 37), true)) .id [(.v 1)] <|
  (.op (some ((.v 37), true)) (.iar .sub .i64) [(.v 41), (.c (.int 1))] <|
  (.call (some ((.v 37), true)) 19 [(.v 40), (.c (.int 0)), (.v 42)] 1 <|
  (.op none .pick [(.v 37), (.v 43), (.c (.bool false))] <|
  (.out 0 [(.v 44)])))))))))))))))))))))))))))))))))))))))))))))
def S149 (G : Told) (_fuel : Nat) (x0 x1 : D) : Option (Nat × List D) :=
  (gev none .len [x0]).bind fun x2 =>
  (gev none (.icm .neq) [x2, (.int 3)]).bind fun x3 =>
  (gev (some (x3, false)) .id [x0]).bind fun x4 =>
  (gev (some (x3, false)) .idx [x4, (.int 0)]).bind fun x5 =>
  (gev (some (x3, false)) .id [x5]).bind fun x6 =>
  (gev (some (x3, false)) .id [x0]).bind fun x7 =>
  (gev (some (x3, false)) .idx [x7, (.int 1)]).bind fun x8 =>
  (gev (some (x3, false)) .id [x8]).bind fun x9 =>
  (gev (some (x3, false)) (.icm .eql) [x6, x9]).bind fun x10 =>
  (gev none .pick [x3, (.bool true), x10]).bind fun x11 =>
  (gev (some (x11, false)) .id [x0]).bind fun x12 =>
  (gev (some (x11, false)) .idx [x12, (.int 1)]).bind fun x13 =>
  (gev (some (x11, false)) .id [x13]).bind fun x14 =>
  (gev (some (x11, false)) .id [x0]).bind fun x15 =>
  (gev (some (x11, false)) .idx [x15, (.int 2)]).bind fun x16 =>
  (gev (some (x11, false)) .id [x16]).bind fun x17 =>
  (gev (some (x11, false)) (.icm .eql) [x14, x17]).bind fun x18 =>
  (gev none .pick [x11, (.bool true), x18]).bind fun x19 =>
  (gev (some (x19, false)) .id [x0]).bind fun x20 =>
  (gev (some (x19, false)) .idx [x20, (.int 0)]).bind fun x21 =>
  (gev (some (x19, false)) .id [x21]).bind fun x22 =>
  (gev (some (x19, false)) .id [x0]).bind fun x23 =>
  (gev (some (x19, false)) .idx [x23, (.int 2)]).bind fun x24 =>
  (gev (some (x19, false)) .id [x24]).bind fun x25 =>
  (gev (some (x19, false)) (.icm .eql) [x22, x25]).bind fun x26 =>
  (gev none .pick [x19, (.bool true), x26]).bind fun x27 =>
  tif x27 (
    some (0, [(.bool false)])) (
    (gev none .idx [x0, (.int 0)]).bind fun x28 =>
    (gev none (.iar .sub .i64) [x1, (.int 1)]).bind fun x29 =>
    (gcall G none 19 [x28, (.int 0), x29] 1).bind fun e30 =>
    (gev (some ((e30.getD 0 .undef), true)) .id [x0]).bind fun x31 =>
    (gev (some ((e30.getD 0 .undef), true)) .idx [x31, (.int 1)]).bind fun x32 =>
    (gev (some ((e30.getD 0 .undef), true)) .id [x32]).bind fun x33 =>
    (gev (some ((e30.getD 0 .undef), true)) .id [x1]).bind fun x34 =>
    (gev (some ((e30.getD 0 .undef), true)) (.iar .sub .i64) [x34, (.int 1)]).bind fun x35 =>
    (gcall G (some ((e30.getD 0 .undef), true)) 19 [x33, (.int 0), x35] 1).bind fun e36 =>
    (gev none .pick [(e30.getD 0 .undef), (e36.getD 0 .undef), (.bool false)]).bind fun x37 =>
    (gev (some (x37, true)) .id [x0]).bind fun x38 =>
    (gev (some (x37, true)) .idx [x38, (.int 2)]).bind fun x39 =>
    (gev (some (x37, true)) .id [x39]).bind fun x40 =>
    (gev (some (x37, true)) .id [x1]).bind fun x41 =>
    (gev (some (x37, true)) (.iar .sub .i64) [x41, (.int 1)]).bind fun x42 =>
    (gcall G (some (x37, true)) 19 [x40, (.int 0), x42] 1).bind fun e43 =>
    (gev none .pick [x37, (e43.getD 0 .undef), (.bool false)]).bind fun x44 =>
    some (0, [x44]))
theorem eq149 {G : Told} {fuel : Nat} (x0 x1 : D) : run G fuel T149 [x0, x1] = S149 G fuel x0 x1 := by
  rw [run_eq]; kernel_rfl

def T150 : T :=
(.op none .len [(.v 0)] <|
(.op none (.icm .gtr) [(.v 2), (.c (.int 64))] <|
(.op (some ((.v 3), false)) .id [(.v 1)] <|
(.op (some ((.v 3), false)) .len [(.v 4)] <|
(.op (some ((.v 3), false)) (.icm .gtr) [(.v 5), (.c (.int 128))] <|
(.op none .pick [(.v 3), (.c (.bool true)), (.v 6)] <|
(.ite (.v 7)
  (.out 0 [(.c (.bool false))])
  (.op none .len [(.v 1)] <|
  (.join 2
    (.loop [(.c (.int 0))]
      (.op none (.icm .lss) [(.v 9), (.v 8)] <|
      (.ite (.v 10)
        (.op none .idx [(.v 1), (.v 9)] <|
        (.op none .len [(.v 11)] <|
        (.op none (.icm .neq) [(.v 12), (.c (.int 3))] <|
        (.op (some ((.v 13), false)) .id [(.v 11)] <|
        (.op (some ((.v 13), false)) .idx [(.v 14), (.c (.int 0))] <|
        (.op (some ((.v 13), false)) .id [(.v 15)] <|
        (.op (some ((.v 13), false)) .id [(.v 11)] <|
        (.op (some ((.v 13), false)) .idx [(.v 17), (.c (.int 1))] <|
        (.op (some ((.v 13), false)) .id [(.v 18)] <|
        (.op (some ((.v 13), false)) (.icm .eql) [(.v 16), (.v 19)] <|
        (.op none .pick [(.v 13), (.c (.bool true)), (.v 20)] <|
        (.op (some ((.v 21), false)) .id [(.v 11)] <|
        (.op (some ((.v 21), false)) .idx [(.v 22), (.c (.int 1))] <|
        (.op (some ((.v 21), false)) .id [(.v 23)] <|
        (.op (some ((.v 21), false)) .id [(.v 11)] <|
        (.op (some ((.v 21), false)) .idx [(.v 25), (.c (.int 2))] <|
        (.op (some ((.v 21), false)) .id [(.v 26)] <|
        (.op (some ((.v 21), false)) (.icm .eql) [(.v 24), (.v 27)] <|
        (.op none .pick [(.v 21), (.c (.bool true)), (.v 28)] <|
        (.op (some ((.v 29), false)) .id [(.v 11)] <|
        (.op (some ((.v 29), false)) .idx [(.v 30), (.c (.int 0))] <|
        (.op (some ((.v 29), false)) .id [(.v 31)] <|
        (.op (some ((.v 29), false)) .id [(.v 11)] <|
        (.op (some ((.v 29), false)) .idx [(.v 33), (.c (.int 2))] <|
        (.op (some ((.v 29), false)) .id [(.v 34)] <|
        (.op (some ((.v 29), false)) (.icm .eql) [(.v 32), (.v 35)] <|
        (.op none .pick [(.v 29), (.c (.bool true)), (.v 36)] <|
        (.ite (.v 37)
          (.out 2 [(.c (.bool false))])
          (.op none .len [(.v 11)] <|
          (.join 2
            (.loop [(.c (.int 0))]
              (.op none (.icm .lss) [(.v 39), (.v 38)] <|
              (.ite (.v 40)
                (.op none .idx [(.v 11), (.v 39)] <|
                (.op none (.iar .sub .i64) [(.v 2), (.c (.int 1))] <|
                (.call none 19 [(.v 41), (.c (.int 0)), (.v 42)] 1 <|
                (.op none .bnot [(.v 43)] <|
                (.ite (.v 44)
                  (.out 4 [(.c (.bool false))])
                  (.op none (.iar .add .i64) [(.v 39), (.c (.int 1))] <|
                  (.out 0 [(.v 45)])))))))
                (.out 1 [(.v 39), (.v 40)]))))
          (.op none (.iar .add .i64) [(.v 9), (.c (.int 1))] <|
          (.out 0 [(.v 41)]))))))))))))))))))))))))))))))))
        (.out 1 [(.v 9), (.v 10)]))))
  (.out 0 [(.c (.bool true))]))))))))))
def S150L0 (G : Told) (x2 : D) (x11 : D) (x38 : D) : List D → Option (Nat × List D) := fun e39 =>
                (gev none (.icm .lss) [(e39.getD 0 .undef), x38]).bind fun x40 =>
                tif x40 (
                  (gev none .idx [x11, (e39.getD 0 .undef)]).bind fun x41 =>
                  (gev none (.iar .sub .i64) [x2, (.int 1)]).bind fun x42 =>
                  (gcall G none 19 [x41, (.int 0), x42] 1).bind fun e43 =>
                  (gev none .bnot [(e43.getD 0 .undef)]).bind fun x44 =>
                  tif x44 (
                    some (4, [(.bool false)])) (
                    (gev none (.iar .add .i64) [(e39.getD 0 .undef), (.int 1)]).bind fun x45 =>
                    some (0, [x45]))) (
                  some (1, [(e39.getD 0 .undef), x40]))
def S150L1 (G : Told) (fuel : Nat) (x1 : D) (x2 : D) (x8 : D) : List D → Option (Nat × List D) := fun e9 =>
        (gev none (.icm .lss) [(e9.getD 0 .undef), x8]).bind fun x10 =>
        tif x10 (
          (gev none .idx [x1, (e9.getD 0 .undef)]).bind fun x11 =>
          (gev none .len [x11]).bind fun x12 =>
          (gev none (.icm .neq) [x12, (.int 3)]).bind fun x13 =>
          (gev (some (x13, false)) .id [x11]).bind fun x14 =>
          (gev (some (x13, false)) .idx [x14, (.int 0)]).bind fun x15 =>
          (gev (some (x13, false)) .id [x15]).bind fun x16 =>
          (gev (some (x13, false)) .id [x11]).bind fun x17 =>
          (gev (some (x13, false)) .idx [x17, (.int 1)]).bind fun x18 =>
          (gev (some (x13, false)) .id [x18]).bind fun x19 =>
          (gev (some (x13, false)) (.icm .eql) [x16, x19]).bind fun x20 =>
          (gev none .pick [x13, (.bool true), x20]).bind fun x21 =>
          (gev (some (x21, false)) .id [x11]).bind fun x22 =>
          (gev (some (x21, false)) .idx [x22, (.int 1)]).bind fun x23 =>
          (gev (some (x21, false)) .id [x23]).bind fun x24 =>
          (gev (some (x21, false)) .id [x11]).bind fun x25 =>
          (gev (some (x21, false)) .idx [x25, (.int 2)]).bind fun x26 =>
          (gev (some (x21, false)) .id [x26]).bind fun x27 =>
          (gev (some (x21, false)) (.icm .eql) [x24, x27]).bind fun x28 =>
          (gev none .pick [x21, (.bool true), x28]).bind fun x29 =>
          (gev (some (x29, false)) .id [x11]).bind fun x30 =>
          (gev (some (x29, false)) .idx [x30, (.int 0)]).bind fun x31 =>
          (gev (some (x29, false)) .id [x31]).bind fun x32 =>
          (gev (some (x29, false)) .id [x11]).bind fun x33 =>
          (gev (some (x29, false)) .idx [x33, (.int 2)]).bind fun x34 =>
          (gev (some (x29, false)) .id [x34]).bind fun x35 =>
          (gev (some (x29, false)) (.icm .eql) [x32, x35]).bind fun x36 =>
          (gev none .pick [x29, (.bool true), x36]).bind fun x37 =>
          tif x37 (
            some (2, [(.bool false)])) (
            (gev none .len [x11]).bind fun x38 =>
            tjoin 2 (
              iter (tbody 1 (S150L0 G x2 x11 x38)) fuel [(.int 0)]) fun _e39 =>
            (gev none (.iar .add .i64) [(e9.getD 0 .undef), (.int 1)]).bind fun x41 =>
            some (0, [x41]))) (
          some (1, [(e9.getD 0 .undef), x10]))
def S150 (G : Told) (fuel : Nat) (x0 x1 : D) : Option (Nat × List D) :=
  (gev none .len [x0]).bind fun x2 =>
  (gev none (.icm .gtr) [x2, (.int 64)]).bind fun x3 =>
  (gev (some (x3, false)) .id [x1]).bind fun x4 =>
  (gev (some (x3, false)) .len [x4]).bind fun x5 =>
  (gev (some (x3, false)) (.icm .gtr) [x5, (.int 128)]).bind fun x6 =>
  (gev none .pick [x3, (.bool true), x6]).bind fun x7 =>
  tif x7 (
    some (0, [(.bool false)])) (
    (gev none .len [x1]).bind fun x8 =>
    tjoin 2 (
      iter (tbody 1 (S150L1 G fuel x1 x2 x8)) fuel [(.int 0)]) fun _e9 =>
    some (0, [(.bool true)]))
theorem eq150 {G : Told} {fuel : Nat} (x0 x1 : D) : run G fuel T150 [x0, x1] = S150 G fuel x0 x1 := by
  rw [run_eq]; kernel_rfl

def T150s : T :=
(.op none .len [(.v 0)] <|
(.op none (.icm .gtr) [(.v 2), (.c (.int 64))] <|
(.op (some ((.v 3), false)) .id [(.v 1)] <|
(.op (some ((.v 3), false)) .len [(.v 4)] <|
(.op (some ((.v 3), false)) (.icm .gtr) [(.v 5), (.c (.int 128))] <|
(.op none .pick [(.v 3), (.c (.bool true)), (.v 6)] <|
(.ite (.v 7)
  (.out 0 [(.c (.bool false))])
  (.join 4
    (.loop [(.c (.int 0))]
      (.op none .len [(.v 1)] <|
      (.op none (.icm .lss) [(.v 8), (.v 9)] <|
      (.ite (.v 10)
        (.op none .idx [(.v 1), (.v 8)] <|
        (.op none .len [(.v 0)] <|
        (.call none 149 [(.v 11), (.v 12)] 1 <|
        (.op none .bnot [(.v 13)] <|
        (.ite (.v 14)
          (.out 2 [(.c (.bool false))])
          (.op none (.iar .add .i64) [(.v 8), (.c (.int 1))] <|
          (.out 0 [(.v 15)])))))))
        (.out 1 [(.v 8), (.v 8), (.v 9), (.v 10)])))))
  (.out 0 [(.c (.bool true))])))))))))
def S150sL0 (G : Told) (x0 : D) (x1 : D) : List D → Option (Nat × List D) := fun e8 =>
        (gev none .len [x1]).bind fun x9 =>
        (gev none (.icm .lss) [(e8.getD 0 .undef), x9]).bind fun x10 =>
        tif x10 (
          (gev none .idx [x1, (e8.getD 0 .undef)]).bind fun x11 =>
          (gev none .len [x0]).bind fun x12 =>
          (gcall G none 149 [x11, x12] 1).bind fun e13 =>
          (gev none .bnot [(e13.getD 0 .undef)]).bind fun x14 =>
          tif x14 (
            some (2, [(.bool false)])) (
            (gev none (.iar .add .i64) [(e8.getD 0 .undef), (.int 1)]).bind fun x15 =>
            some (0, [x15]))) (
          some (1, [(e8.getD 0 .undef), (e8.getD 0 .undef), x9, x10]))
def S150s (G : Told) (fuel : Nat) (x0 x1 : D) : Option (Nat × List D) :=
  (gev none .len [x0]).bind fun x2 =>
  (gev none (.icm .gtr) [x2, (.int 64)]).bind fun x3 =>
  (gev (some (x3, false)) .id [x1]).bind fun x4 =>
  (gev (some (x3, false)) .len [x4]).bind fun x5 =>
  (gev (some (x3, false)) (.icm .gtr) [x5, (.int 128)]).bind fun x6 =>
  (gev none .pick [x3, (.bool true), x6]).bind fun x7 =>
  tif x7 (
    some (0, [(.bool false)])) (
    tjoin 4 (
      iter (tbody 1 (S150sL0 G x0 x1)) fuel [(.int 0)]) fun _e8 =>
    some (0, [(.bool true)]))
theorem eq150s {G : Told} {fuel : Nat} (x0 x1 : D) : run G fuel T150s [x0, x1] = S150s G fuel x0 x1 := by
  rw [run_eq]; kernel_rfl

attribute [local irreducible] tif tjoin IntKind.wrap feq fadd fmul fsub fdiv fgt i2f sameP wide eqV vl il tl totL szM marksV marksT inr triP validP

theorem F100_il {l : List Int} (h : l.length ≤ 1048576) : F100 [il l, il l] = some [.bool true] := by
  unfold il
  simp only [F100]
  rw [if_pos ⟨trivial, by simp [isI], by simp; omega⟩]
theorem F101_tl {ts : List (List Int)} (h : ts.length + totL ts ≤ 1048576) : F101 [tl ts, tl ts] = some [.bool true] := by
  unfold tl
  simp only [F101]
  refine if_pos ⟨rfl, fun x hx => ?_, by simp; omega⟩
  obtain ⟨t, ht, rfl⟩ := List.mem_map.1 hx
  obtain ⟨i, hi, rfl⟩ := List.getElem_of_mem ht
  have := len_le_totL hi
  exact F100_il (by omega)
theorem tot_map (ts : List (List Int)) : tot (ts.map fun t => t.map D.int) = totL ts := by
  unfold totL
  induction ts with
  | nil => rfl
  | cons t ts ih => simp [tot, ih]
theorem unL_tl (ts : List (List Int)) : (ts.map il).map unL = ts.map fun t => t.map D.int := by
  unfold il
  simp [unL]
theorem isL_tl (ts : List (List Int)) : (ts.map il).all isL = true := by
  unfold il
  simp [isL]
theorem F103_tl {ts : List (List Int)} {m : Int} (h : ts.length + totL ts ≤ 1048576) (h0 : 0 ≤ m) (h1 : m ≤ 1099511627776) : F103 [tl ts, .int m] = some [.int (m + totL ts), marksT m ts] := by
  unfold tl
  simp only [F103, unL_tl, tot_map]
  rw [if_pos ⟨isL_tl ts, h0, by omega, by simp; omega⟩]
  unfold marksT
  rfl
theorem F105_tl {ts : List (List Int)} {m : Int} (h : ts.length + totL ts ≤ 1048576) (h0 : 0 ≤ m) (h1 : m ≤ 1099511627776) : F105 [marksT m ts, .int m] = some [.int (m + totL ts)] := by
  have e : ((mks m (ts.map fun t => t.map D.int)).map D.lst).map unL = mks m (ts.map fun t => t.map D.int) := by
    rw [List.map_map]
    exact List.map_id'' (fun _ => rfl) _
  unfold marksT
  simp only [F105, e, tot_mks, tot_map, mks_idem]
  rw [if_pos ⟨by simp [isL], trivial, h0, by omega, by simp [mks_length]; omega⟩]

set_option maxHeartbeats 4000000 in
theorem run146 {G : Told} (g127 : G 127 = F127) (g101 : G 101 = F101) : ∀ ds rs, F146 ds = some rs → ∃ fuel, run G fuel T146 ds = some (0, rs) := by
  intro ds rs h
  unfold F146 at h
  split at h
  case h_2 => cases h
  rename_i a b c d
  obtain ⟨vs, ha, h⟩ := Option.bind_eq_some_iff.1 h
  obtain ⟨ts, hb, h⟩ := Option.bind_eq_some_iff.1 h
  split at h
  case isFalse => cases h
  rename_i hc
  simp only [Option.some.injEq] at h
  subst h
  obtain ⟨hc, rfl, rfl⟩ := hc
  rw [dV_inv ha, dT_inv hb]
  have hz : szM vs ts = vs.length + ts.length + totL ts := by unfold szM; rfl
  refine ⟨0, ?_⟩
  rw [eq146]
  unfold S146
  have h1 := F127_vl (vs := vs) (by omega)
  have h2 := F101_tl (ts := ts) (by omega)
  repeat' first
    | with_reducible refine st_ift ?_
    | with_reducible refine st_iff ?_
    | ((with_reducible apply st_ift4); exact rfl)
    | ((with_reducible apply st_iff4); exact rfl)
    | ((with_reducible apply st_call); exact g127; exact rfl; exact h1; exact rfl)
    | ((with_reducible apply st_call); exact g101; exact rfl; exact h2; exact rfl)
    | ((with_reducible apply st_callt); assumption; exact rfl; exact rfl; assumption)
    | ((with_reducible apply st_callf); assumption; exact rfl; exact rfl; assumption)
    | ((with_reducible apply st_call); assumption; exact rfl; exact rfl; exact rfl)
    | ((with_reducible apply st_wide); exact rfl; exact rfl)
    | ((with_reducible apply st_skip); exact rfl)
    | ((with_reducible apply st_t); exact rfl; exact rfl)
    | ((with_reducible apply st_f); exact rfl; exact rfl)
    | ((with_reducible apply st_t); exact rfl; assumption)
    | ((with_reducible apply st_f); exact rfl; assumption)
    | ((with_reducible apply st_some); exact rfl)
    | exact rfl
set_option maxHeartbeats 4000000 in
theorem run147 {G : Told} (g128 : G 128 = F128) (g103 : G 103 = F103) : ∀ ds rs, F147 ds = some rs → ∃ fuel, run G fuel T147 ds = some (0, rs) := by
  intro ds rs h
  unfold F147 at h
  split at h
  case h_2 => cases h
  rename_i a b m
  obtain ⟨vs, ha, h⟩ := Option.bind_eq_some_iff.1 h
  obtain ⟨ts, hb, h⟩ := Option.bind_eq_some_iff.1 h
  rw [dV_inv ha, dT_inv hb]
  split at h
  case isFalse => cases h
  rename_i hc
  obtain ⟨hc, hm0, hm1⟩ := hc
  have hz : szM vs ts = vs.length + ts.length + totL ts := by unfold szM; rfl
  simp only [Option.some.injEq] at h
  subst h
  refine ⟨0, ?_⟩
  rw [eq147]
  unfold S147
  have h1 := F128_vl (vs := vs) (m := m) (by omega) (by omega) (by omega)
  have h2 := F103_tl (ts := ts) (m := m + 3 * vs.length) (by omega) (by omega) (by omega)
  repeat' first
    | with_reducible refine st_ift ?_
    | with_reducible refine st_iff ?_
    | ((with_reducible apply st_ift4); exact rfl)
    | ((with_reducible apply st_iff4); exact rfl)
    | ((with_reducible apply st_call); exact g128; exact rfl; exact h1; exact rfl)
    | ((with_reducible apply st_call); exact g103; exact rfl; exact h2; exact rfl)
    | ((with_reducible apply st_callt); assumption; exact rfl; exact rfl; assumption)
    | ((with_reducible apply st_callf); assumption; exact rfl; exact rfl; assumption)
    | ((with_reducible apply st_call); assumption; exact rfl; exact rfl; exact rfl)
    | ((with_reducible apply st_wide); exact rfl; exact rfl)
    | ((with_reducible apply st_skip); exact rfl)
    | ((with_reducible apply st_t); exact rfl; exact rfl)
    | ((with_reducible apply st_f); exact rfl; exact rfl)
    | ((with_reducible apply st_t); exact rfl; assumption)
    | ((with_reducible apply st_f); exact rfl; assumption)
    | ((with_reducible apply st_some); exact rfl)
    | exact rfl
set_option maxHeartbeats 4000000 in
theorem run148 {G : Told} (g129 : G 129 = F129) (g105 : G 105 = F105) : ∀ ds rs, F148 ds = some rs → ∃ fuel, run G fuel T148 ds = some (0, rs) := by
  intro ds rs h
  unfold F148 at h
  split at h
  case h_2 => cases h
  rename_i a b m
  split at h
  case isFalse => cases h
  rename_i hc
  simp only [Option.some.injEq] at h
  subst h
  have hs := hc.choose_spec.choose_spec
  generalize hc.choose_spec.choose = ts at hs
  generalize hc.choose = vs at hs
  obtain ⟨hs, rfl, rfl, hm0, hm1⟩ := hs
  have hz : szM vs ts = vs.length + ts.length + totL ts := by unfold szM; rfl
  refine ⟨0, ?_⟩
  rw [eq148]
  unfold S148
  have h1 := F129_vl (n := vs.length) (m := m) (by omega) (by omega) (by omega)
  have h2 := F105_tl (ts := ts) (m := m + 3 * vs.length) (by omega) (by omega) (by omega)
  have d1 : decide (m + 3 * (vs.length : Int) < 0) = false := by simp; omega
  have d2 : decide (m + 3 * (vs.length : Int) + totL ts < 0) = false := by simp; omega
  repeat' first
    | with_reducible refine st_ift ?_
    | with_reducible refine st_iff ?_
    | ((with_reducible apply st_ift4); exact rfl)
    | ((with_reducible apply st_iff4); exact rfl)
    | ((with_reducible apply st_call); exact g129; exact rfl; exact h1; exact rfl)
    | ((with_reducible apply st_call); exact g105; exact rfl; exact h2; exact rfl)
    | ((with_reducible apply st_callt); assumption; exact rfl; exact rfl; assumption)
    | ((with_reducible apply st_callf); assumption; exact rfl; exact rfl; assumption)
    | ((with_reducible apply st_call); assumption; exact rfl; exact rfl; exact rfl)
    | ((with_reducible apply st_wide); exact rfl; exact rfl)
    | ((with_reducible apply st_skip); exact rfl)
    | ((with_reducible apply st_t); exact rfl; exact rfl)
    | ((with_reducible apply st_f); exact rfl; exact rfl)
    | ((with_reducible apply st_t); exact rfl; assumption)
    | ((with_reducible apply st_f); exact rfl; assumption)
    | ((with_reducible apply st_some); exact rfl)
    | exact rfl
theorem F148_m {vs : List V3} {ts : List (List Int)} {m : Int} (h : szM vs ts ≤ 1048576) (h0 : 0 ≤ m) (h1 : m ≤ 1048576) : F148 [vl (marksV m vs.length), marksT (m + 3 * vs.length) ts, .int m] = some [.int (m + 3 * vs.length + totL ts)] := by
  have hx : ∃ us ss, szM us ss ≤ 1048576 ∧ vl (marksV m vs.length) = vl (marksV m us.length) ∧ marksT (m + 3 * vs.length) ts = marksT (m + 3 * us.length) ss ∧ 0 ≤ m ∧ m ≤ 1048576 := ⟨vs, ts, h, rfl, rfl, h0, h1⟩
  simp only [F148]
  rw [dif_pos hx]
  have hs := hx.choose_spec.choose_spec
  generalize hx.choose_spec.choose = ss at hs
  generalize hx.choose = us at hs
  obtain ⟨_, e1, e2, _, _⟩ := hs
  have e1 := vl_inj e1
  have n1 : vs.length = us.length := by
    have := congrArg List.length e1
    rwa [marksV_length, marksV_length] at this
  have n2 : totL ts = totL ss := by
    unfold marksT at e2
    have e3 := D.lst.inj e2
    have e4 := congrArg (List.map unL) e3
    rw [List.map_map, List.map_map] at e4
    have key : ∀ l : List (List D), l.map (unL ∘ D.lst) = l := fun l => List.map_id'' (fun _ => rfl) l
    rw [key, key] at e4
    have e5 := congrArg tot e4
    rwa [tot_mks, tot_mks, tot_map, tot_map] at e5
  rw [n1, n2]


end Vs
