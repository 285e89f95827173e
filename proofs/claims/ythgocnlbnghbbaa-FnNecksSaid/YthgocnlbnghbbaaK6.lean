/-
  Meshes: lists of vectors beside lists of lists of whole numbers; what laws do with them; copies; which are valid.
-/
import Derived.Test.YthgocnlbnghbbaaK5
import Derived.Test.YthgocnlbnghbbaaE
namespace Vs
open Go

/-! ### Lists of whole numbers, lists of these -/
def il (l : List Int) : D := .lst (l.map .int)
def tl (l : List (List Int)) : D := .lst (l.map il)
def unint : D → Int | .int n => n | _ => 0
def unil : D → List Int | .lst l => l.map unint | _ => []
theorem unint_int (l : List Int) : (l.map D.int).map unint = l := by
  rw [List.map_map]
  exact List.map_id'' (fun _ => rfl) l
theorem unil_il (l : List Int) : unil (il l) = l := by simp only [unil, il, unint_int]
theorem untl (l : List (List Int)) : (l.map il).map unil = l := by
  rw [List.map_map]
  exact List.map_id'' unil_il l
open Classical in
noncomputable def dV : D → Option (List V3)
  | .lst a => if a = (a.map unvec).map vec then some (a.map unvec) else none
  | _ => none
open Classical in
noncomputable def dI : D → Option (List Int)
  | .lst a => if a = (a.map unint).map .int then some (a.map unint) else none
  | _ => none
open Classical in
noncomputable def dT : D → Option (List (List Int))
  | .lst a => if a = (a.map unil).map il then some (a.map unil) else none
  | _ => none
theorem dV_vl (l : List V3) : dV (vl l) = some l := by
  simp only [dV, vl]
  rw [if_pos (by rw [unvl]), unvl]
theorem dI_il (l : List Int) : dI (il l) = some l := by
  simp only [dI, il]
  rw [if_pos (by rw [unint_int]), unint_int]
theorem dT_tl (l : List (List Int)) : dT (tl l) = some l := by
  simp only [dT, tl]
  rw [if_pos (by rw [untl]), untl]
theorem dV_inv {d : D} {l : List V3} (h : dV d = some l) : d = vl l := by
  unfold dV at h
  split at h
  · split at h
    · rename_i hc
      cases h
      rw [vl, ← hc]
    · cases h
  · cases h
theorem dI_inv {d : D} {l : List Int} (h : dI d = some l) : d = il l := by
  unfold dI at h
  split at h
  · split at h
    · rename_i hc
      cases h
      rw [il, ← hc]
    · cases h
  · cases h
theorem dT_inv {d : D} {l : List (List Int)} (h : dT d = some l) : d = tl l := by
  unfold dT at h
  split at h
  · split at h
    · rename_i hc
      cases h
      rw [tl, ← hc]
    · cases h
  · cases h

theorem idx_il {l : List Int} {i : Nat} (h : i < l.length) : gev none .idx [il l, .int i] = some (.int l[i]) := by
  have h2 : (i : Int) < ((l.map D.int).length : Int) := by simp; omega
  simp only [gev, gok, if_true, Prim.ev, il]
  rw [if_pos ⟨by omega, h2⟩]
  simp [h]
theorem len_il {l : List Int} : gev none .len [il l] = some (.int (l.length : Int)) := by simp [gev, gok, Prim.ev, il]
theorem idx_tl {l : List (List Int)} {i : Nat} (h : i < l.length) : gev none .idx [tl l, .int i] = some (il l[i]) := by
  have h2 : (i : Int) < ((l.map il).length : Int) := by simp; omega
  simp only [gev, gok, if_true, Prim.ev, tl]
  rw [if_pos ⟨by omega, h2⟩]
  simp [h]
theorem len_tl {l : List (List Int)} : gev none .len [tl l] = some (.int (l.length : Int)) := by simp [gev, gok, Prim.ev, tl]
/-! ### Loops -/
theorem iter_to {body : List D → Option (Nat × List D)} (s : Nat → List D) {n f l : Nat} {ds : List D} (hf : n < f) (hs : ∀ i, i < n → body (s i) = some (0, s (i + 1))) (he : body (s n) = some (l + 1, ds)) :
    iter body f (s 0) = some (l, ds) :=
  iter_mono (fun _ _ h => h) (iter_upto s hs he) hf
theorem iter_bad {body : List D → Option (Nat × List D)} (s : Nat → List D) (good : Nat → Prop) {n f l : Nat} {ds : List D} (hf : n ≤ f) (hs : ∀ i, i < n → good i → body (s i) = some (0, s (i + 1)))
    (hb : ∀ i, i < n → ¬ good i → body (s i) = some (l + 1, ds)) (hx : ∃ i, i < n ∧ ¬ good i) : iter body f (s 0) = some (l, ds) := by
  have key : ∀ (k i : Nat), i + k = n → (∃ j, i ≤ j ∧ j < n ∧ ¬ good j) → iter body (k + (f - n)) (s i) = some (l, ds) := by
    intro k
    induction k with
    | zero =>
      intro i hi ⟨j, h1, h2, _⟩
      omega
    | succ k ih =>
      intro i hi ⟨j, h1, h2, h3⟩
      by_cases hg : good i
      · rw [show k + 1 + (f - n) = (k + (f - n)) + 1 from by omega]
        refine iter_go (hs i (by omega) hg) (ih (i + 1) (by omega) ⟨j, ?_, h2, h3⟩)
        rcases Nat.lt_or_ge i j with h | h
        · exact h
        · have : i = j := by omega
          subst this
          exact absurd hg h3
      · rw [show k + 1 + (f - n) = (k + (f - n)) + 1 from by omega]
        exact iter_end (hb i (by omega) hg) rfl
  obtain ⟨j, h1, h2⟩ := hx
  have := key n 0 (by omega) ⟨j, by omega, h1, h2⟩
  rwa [show n + (f - n) = f from by omega] at this

/-! ### Sizes -/
def totL (ts : List (List Int)) : Nat := (ts.map List.length).sum
def szM (vs : List V3) (ts : List (List Int)) : Nat := vs.length + ts.length + totL ts
theorem totL_take (ts : List (List Int)) (i : Nat) (h : i < ts.length) : totL (ts.take (i + 1)) = totL (ts.take i) + ts[i].length := by
  unfold totL
  rw [take_step h, List.map_append, List.sum_append]
  simp
theorem totL_le (ts : List (List Int)) (i : Nat) : totL (ts.take i) ≤ totL ts := by
  have : totL ts = totL (ts.take i) + totL (ts.drop i) := by
    rw [totL, totL, totL, ← List.sum_append, ← List.map_append, List.take_append_drop]
  omega
theorem len_le_totL {ts : List (List Int)} {i : Nat} (h : i < ts.length) : ts[i].length ≤ totL ts := by
  have h1 := totL_take ts i h
  have h2 := totL_le ts (i + 1)
  omega

/-! ### Valid meshes -/
def inr (n : Int) (p : Int) : Bool := decide (0 ≤ p) && decide (p ≤ n - 1)
def triP (n : Int) : List Int → Bool
  | [a, b, c] => !(a == b) && !(b == c) && !(a == c) && [a, b, c].all (inr n)
  | _ => false
def validP (n : Nat) (ts : List (List Int)) : Bool := decide (n ≤ 64) && decide (ts.length ≤ 128) && ts.all (triP n)
noncomputable def F150 : List D → Option (List D)
  | [a, b] => (dV a).bind fun vs => (dT b).bind fun ts => if szM vs ts ≤ 1048576 then some [.bool (validP vs.length ts)] else none
  | _ => none
theorem F150_m {vs : List V3} {ts : List (List Int)} (h : szM vs ts ≤ 1048576) : F150 [vl vs, tl ts] = some [.bool (validP vs.length ts)] := by simp [F150, dV_vl, dT_tl, h]

def T150 : T :=
(.op none .len [(.v 0)] <|
(.op none (.icm .gtr) [(.v 2), (.c (.int 64))] <|
(.op (some ((.v 3), false)) .id [(.v 1)] <|
(.op (some ((.v 3), false)) .len [(.v 4)] <|
(.op (some ((.v 3), false)) (.icm .gtr) [(.v 5), (.c (.int 128))] <|
(.op none .pick [(.v 3), (.c (.bool true)), (.v 6)] <|
(.ite (.v 7)
  (.out 0 [(.c (.bool false))])
  (.op none .len [(.v 1)] <|
  (.join 2
    (.loop [(.c (.int 0))]
      (.op none (.icm .lss) [(.v 9), (.v 8)] <|
      (.ite (.v 10)
        (.op none .idx [(.v 1), (.v 9)] <|
        (.op none .len [(.v 11)] <|
        (.op none (.icm .neq) [(.v 12), (.c (.int 3))] <|
        (.op (some ((.v 13), false)) .id [(.v 11)] <|
        (.op (some ((.v 13), false)) .idx [(.v 14), (.c (.int 0))] <|
        (.op (some ((.v 13), false)) .id [(.v 15)] <|
        (.op (some ((.v 13), false)) .id [(.v 11)] <|
        (.op (some ((.v 13), false)) .idx [(.v 17), (.c (.int 1))] <|
        (.op (some ((.v 13), false)) .id [(.v 18)] <|
        (.op (some ((.v 13), false)) (.icm .eql) [(.v 16), (.v 19)] <|
        (.op none .pick [(.v 13), (.c (.bool true)), (.v 20)] <|
        (.op (some ((.v 21), false)) .id [(.v 11)] <|
        (.op (some ((.v 21), false)) .idx [(.v 22), (.c (.int 1))] <|
        (.op (some ((.v 21), false)) .id [(.v 23)] <|
        (.op (some ((.v 21), false)) .id [(.v 11)] <|
        (.op (some ((.v 21), false)) .idx [(.v 25), (.c (.int 2))] <|
        (.op (some ((.v 21), false)) .id [(.v 26)] <|
        (.op (some ((.v 21), false)) (.icm .eql) [(.v 24), (.v 27)] <|
        (.op none .pick [(.v 21), (.c (.bool true)), (.v 28)] <|
        (.op (some ((.v 29), false)) .id [(.v 11)] <|
        (.op (some ((.v 29), false)) .idx [(.v 30), (.c (.int 0))] <|
        (.op (some ((.v 29), false)) .id [(.v 31)] <|
        (.op (some ((.v 29), false)) .id [(.v 11)] <|
        (.op (some ((.v 29), false)) .idx [(.v 33), (.c (.int 2))] <|
        (.op (some ((.v 29), false)) .id [(.v 34)] <|
        (.op (some ((.v 29), false)) (.icm .eql) [(.v 32), (.v 35)] <|
        (.op none .pick [(.v 29), (.c (.bool true)), (.v 36)] <|
        (.ite (.v 37)
          (.out 2 [(.c (.bool false))])
          (.op none .len [(.v 11)] <|
          (.join 2
            (.loop [(.c (.int 0))]
              (.op none (.icm .lss) [(.v 39), (.v 38)] <|
              (.ite (.v 40)
                (.op none .idx [(.v 11), (.v 39)] <|
                (.op none (.iar .sub .i64) [(.v 2), (.c (.int 1))] <|
                (.call none 19 [(.v 41), (.c (.int 0)), (.v 42)] 1 <|
                (.op none .bnot [(.v 43)] <|
                (.ite (.v 44)
                  (.out 4 [(.c (.bool false))])
                  (.op none (.iar .add .i64) [(.v 39), (.c (.int 1))] <|
                  (.out 0 [(.v 45)])))))))
                (.out 1 [(.v 39), (.v 40)]))))
          (.op none (.iar .add .i64) [(.v 9), (.c (.int 1))] <|
          (.out 0 [(.v 41)]))))))))))))))))))))))))))))))))
        (.out 1 [(.v 9), (.v 10)]))))
  (.out 0 [(.c (.bool true))]))))))))))
def S150L0 (G : Told) (x2 : D) (x11 : D) (x38 : D) : List D → Option (Nat × List D) := fun e39 =>
                (gev none (.icm .lss) [(e39.getD 0 .undef), x38]).bind fun x40 =>
                tif x40 (
                  (gev none .idx [x11, (e39.getD 0 .undef)]).bind fun x41 =>
                  (gev none (.iar .sub .i64) [x2, (.int 1)]).bind fun x42 =>
                  (gcall G none 19 [x41, (.int 0), x42] 1).bind fun e43 =>
                  (gev none .bnot [(e43.getD 0 .undef)]).bind fun x44 =>
                  tif x44 (
                    some (4, [(.bool false)])) (
                    (gev none (.iar .add .i64) [(e39.getD 0 .undef), (.int 1)]).bind fun x45 =>
                    some (0, [x45]))) (
                  some (1, [(e39.getD 0 .undef), x40]))
def S150L1 (G : Told) (fuel : Nat) (x1 : D) (x2 : D) (x8 : D) : List D → Option (Nat × List D) := fun e9 =>
        (gev none (.icm .lss) [(e9.getD 0 .undef), x8]).bind fun x10 =>
        tif x10 (
          (gev none .idx [x1, (e9.getD 0 .undef)]).bind fun x11 =>
          (gev none .len [x11]).bind fun x12 =>
          (gev none (.icm .neq) [x12, (.int 3)]).bind fun x13 =>
          (gev (some (x13, false)) .id [x11]).bind fun x14 =>
          (gev (some (x13, false)) .idx [x14, (.int 0)]).bind fun x15 =>
          (gev (some (x13, false)) .id [x15]).bind fun x16 =>
          (gev (some (x13, false)) .id [x11]).bind fun x17 =>
          (gev (some (x13, false)) .idx [x17, (.int 1)]).bind fun x18 =>
          (gev (some (x13, false)) .id [x18]).bind fun x19 =>
          (gev (some (x13, false)) (.icm .eql) [x16, x19]).bind fun x20 =>
          (gev none .pick [x13, (.bool true), x20]).bind fun x21 =>
          (gev (some (x21, false)) .id [x11]).bind fun x22 =>
          (gev (some (x21, false)) .idx [x22, (.int 1)]).bind fun x23 =>
          (gev (some (x21, false)) .id [x23]).bind fun x24 =>
          (gev (some (x21, false)) .id [x11]).bind fun x25 =>
          (gev (some (x21, false)) .idx [x25, (.int 2)]).bind fun x26 =>
          (gev (some (x21, false)) .id [x26]).bind fun x27 =>
          (gev (some (x21, false)) (.icm .eql) [x24, x27]).bind fun x28 =>
          (gev none .pick [x21, (.bool true), x28]).bind fun x29 =>
          (gev (some (x29, false)) .id [x11]).bind fun x30 =>
          (gev (some (x29, false)) .idx [x30, (.int 0)]).bind fun x31 =>
          (gev (some (x29, false)) .id [x31]).bind fun x32 =>
          (gev (some (x29, false)) .id [x11]).bind fun x33 =>
          (gev (some (x29, false)) .idx [x33, (.int 2)]).bind fun x34 =>
          (gev (some (x29, false)) .id [x34]).bind fun x35 =>
          (gev (some (x29, false)) (.icm .eql) [x32, x35]).bind fun x36 =>
          (gev none .pick [x29, (.bool true), x36]).bind fun x37 =>
          tif x37 (
            some (2, [(.bool false)])) (
            (gev none .len [x11]).bind fun x38 =>
            tjoin 2 (
              iter (tbody 1 (S150L0 G x2 x11 x38)) fuel [(.int 0)]) fun _e39 =>
            (gev none (.iar .add .i64) [(e9.getD 0 .undef), (.int 1)]).bind fun x41 =>
            some (0, [x41]))) (
          some (1, [(e9.getD 0 .undef), x10]))
def S150 (G : Told) (fuel : Nat) (x0 x1 : D) : Option (Nat × List D) :=
  (gev none .len [x0]).bind fun x2 =>
  (gev none (.icm .gtr) [x2, (.int 64)]).bind fun x3 =>
  (gev (some (x3, false)) .id [x1]).bind fun x4 =>
  (gev (some (x3, false)) .len [x4]).bind fun x5 =>
  (gev (some (x3, false)) (.icm .gtr) [x5, (.int 128)]).bind fun x6 =>
  (gev none .pick [x3, (.bool true), x6]).bind fun x7 =>
  tif x7 (
    some (0, [(.bool false)])) (
    (gev none .len [x1]).bind fun x8 =>
    tjoin 2 (
      iter (tbody 1 (S150L1 G fuel x1 x2 x8)) fuel [(.int 0)]) fun _e9 =>
    some (0, [(.bool true)]))
theorem eq150 {G : Told} {fuel : Nat} (x0 x1 : D) : run G fuel T150 [x0, x1] = S150 G fuel x0 x1 := by
  rw [run_eq]; kernel_rfl

attribute [local irreducible] tif tjoin IntKind.wrap feq fadd fmul fsub fdiv fgt i2f wide vl il tl totL szM inr triP validP

end Vs
