/-
  The best edge of a mesh: the reference, and the laws ShortestEdge, LongestEdge, BestFlip.
-/
import Derived.Test.YtaakjnkllodchaaK29
set_option maxHeartbeats 4000000
namespace Vs
open Go Go.Sort
def betO (bet : Nat → Nat → Bool) : Option (Nat × Nat) → Nat → Bool
 | none, _ => true
 | some (_, v), x => bet x v
def bstS (num : E2 → Option Nat) (bet : Nat → Nat → Bool) (es : List E2) (st : Option (Nat × Nat)) (i : Nat) : Option (Nat × Nat) :=
 match num (es.getD i (0, 0)) with
 | none => st
 | some x => if (feq .f32 x x && betO bet st x) = true then some (i, x) else st
def bstN (num : E2 → Option Nat) (bet : Nat → Nat → Bool) (es : List E2) : Nat → Option (Nat × Nat)
 | 0 => none
 | i + 1 => bstS num bet es (bstN num bet es i) i
def bstR (es : List E2) : Option (Nat × Nat) → List D
 | none => [il [], .flt 0, .bool false]
 | some (j, v) => [il [(es.getD j (0, 0)).1, (es.getD j (0, 0)).2], .flt v, .bool true]
def bstP (num : E2 → Option Nat) (bet : Nat → Nat → Bool) (es : List E2) : List D := bstR es (bstN num bet es es.length)
def numF (vs : List V3) (ts : List (List Int)) (e : E2) : Option Nat := if flipB ts e.1 e.2 = true then some (gnP vs ts e.1 e.2) else none
def betL (l : Bool) (x v : Nat) : Bool := if l = true then fgt .f32 x v else flt .f32 x v
theorem bstN_lt {num : E2 → Option Nat} {bet : Nat → Nat → Bool} {es : List E2} : ∀ {i j v : Nat}, bstN num bet es i = some (j, v) → j < i
 | 0, _, _, h => by cases h
 | i + 1, j, v, h => by
  have h : bstS num bet es (bstN num bet es i) i = some (j, v) := h;unfold bstS at h;split at h
  ·exact Nat.lt_succ_of_lt (bstN_lt h)
  ·split at h
   ·simp only [Option.some.injEq, Prod.mk.injEq] at h
    omega
   ·exact Nat.lt_succ_of_lt (bstN_lt h)
theorem bstS_some {num : E2 → Option Nat} {bet : Nat → Nat → Bool} {es : List E2} {st : Option (Nat × Nat)} {i x : Nat} (h : num (es.getD i (0, 0)) = some x) : bstS num bet es st i = if (feq .f32 x x && betO bet st x) = true then some (i, x) else st := by
 unfold bstS
 rw [h]
theorem bstS_none {num : E2 → Option Nat} {bet : Nat → Nat → Bool} {es : List E2} {st : Option (Nat × Nat)} {i : Nat} (h : num (es.getD i (0, 0)) = none) : bstS num bet es st i = st := by
 unfold bstS
 rw [h]
theorem bstR_none {es : List E2} : bstR es none = [il [], .flt 0, .bool false] := (rfl)
theorem bstR_some {es : List E2} {j v : Nat} {p q : Int} (h : es.getD j (0, 0) = (p, q)) : bstR es (some (j, v)) = [il [p, q], .flt v, .bool true] := by
 unfold bstR
 simp only [h]
theorem bst3 (es : List E2) (st : Option (Nat × Nat)) : ∃ l x b, bstR es st = [il l, .flt x, .bool b] ∧ l.length ≤ 1048576 := by
 cases st with
 | none => exact ⟨_, _, _, rfl, by simp⟩
 | some s => exact ⟨_, _, _, rfl, by simp⟩
noncomputable def F427 : List D → Option (List D)
 | [.int p, .int q, a, b] => F417 [a, b, .int p, .int q]
 | _ => none
def F428 : List D → Option (List D) | [.flt x, .flt y] => some [.bool (fgt .f32 x y)] | _ => none
noncomputable def F436 : List D → Option (List D)
 | [a, b] => (dV a).bind fun vs => (dT b).bind fun ts => if szM vs ts ≤ 1048576 then some (if (validP vs.length ts && sheetP ts) = true then bstP (numF vs ts) (betL true) (edgL ts vs.length) else bstR [] none) else none
 | _ => none
theorem F436_m {vs : List V3} {ts : List (List Int)} (h : szM vs ts ≤ 1048576) : F436 [vl vs, tl ts] = some (if (validP vs.length ts && sheetP ts) = true then bstP (numF vs ts) (betL true) (edgL ts vs.length) else bstR [] none) := by
 simp only [F436, dV_vl, dT_tl, Option.bind_some]
 rw [if_pos h]
def T427 : T :=
(cc 417 [2, 3, 0, 1] 2 <|
.out 0 [4, 5])
def S427 (G : Told) (_fuel : Nat) (x0 x1 x2 x3 : D) : Option (Nat × List D) :=
 (gcall G none 417 [x2, x3, x0, x1] 2).bind fun e4 =>
 some (0, [e4.getD 0 .undef, e4.getD 1 .undef])
theorem eq427 {G fuel} (x0 x1 x2 x3) : run G fuel T427 [x0, x1, x2, x3] = S427 G fuel x0 x1 x2 x3 := by rw [run_eq]; kernel_rfl
def T428 : T :=
(oo (.fcm .gtr .f32) [0, 1] <|
.out 0 [2])
def S428 (_G : Told) (_fuel : Nat) (x0 x1 : D) : Option (Nat × List D) :=
 (gev none (.fcm .gtr .f32) [x0, x1]).bind fun x2 =>
 some (0, [x2])
theorem eq428 {G fuel} (x0 x1) : run G fuel T428 [x0, x1] = S428 G fuel x0 x1 := by rw [run_eq]; kernel_rfl
theorem edg_get {n : Nat} {ts : List (List Int)} {i : Nat} (h : i < (edgL ts n).length) : ∃ p q : Int, (edgL ts n).getD i (0, 0) = (p, q) ∧ (inr n p && inr n q) = true ∧ p ≠ q ∧ gev none .idx [tl (etl (edgL ts n)), .int (i : Int)] = some (il [p, q]) := by
 have hm : (edgL ts n)[i] ∈ edgN ts n n := List.getElem_mem h
 obtain ⟨a, b, ha, hb, hab, _, he⟩ := (edgN_mem ts n n _).1 hm
 refine ⟨a, b, by rw [getD_lt h, he], ?_, by omega, ?_⟩
 ·rw [Bool.and_eq_true, inr_iff, inr_iff]
  omega
 ·rw [idx_tl (by rw [etl_len]; exact h)]
  simp [etl, he]
theorem edg_len {n : Nat} {ts : List (List Int)} (h : n ≤ 64) : (edgL ts n).length ≤ 4096 :=
 Nat.le_trans (edgN_len ts n n) (Nat.mul_le_mul h h)
theorem ok_of {n : Nat} {ts : List (List Int)} {p q : Int} (hv : validP n ts = true) (h : (inr n p && inr n q) = true) (hpq : p ≠ q) : okP n ts p q = true := by
 unfold okP
 rw [hv, h]
 simp [hpq]
theorem run428 {G : Told} : Runs G F428 T428 := by
 intro ds rs h
 unfold F428 at h
 split at h <;> simp only [Option.some.injEq, reduceCtorEq] at h
 subst h
 refine ⟨0, ?_⟩
 rw [eq428]
 rfl
attribute [local irreducible] IntKind.wrap il tl vl bo mpD kD inr validP sheetP longP fsub lenP atV flC flD oneI twoI pairP flipQ atL thirdP fgt flt fge feq flipB gnP edgL etl

theorem run427 {G : Told} (g417 : G 417 = F417) : Runs G F427 T427 := by
 intro ds rs h
 unfold F427 at h
 split at h
 case h_2 => cases h
 rename_i p q a b
 have hl : ∃ x y, rs = [x, y] := by
  unfold F417 at h;obtain ⟨vs, ha, h⟩ := Option.bind_eq_some_iff.1 h;obtain ⟨ts, hb, h⟩ := Option.bind_eq_some_iff.1 h;split at h
  ·simp only [Option.some.injEq] at h
   subst h;split <;> exact ⟨_, _, rfl⟩
  ·cases h
 obtain ⟨x, y, rfl⟩ := hl
 refine ⟨0, ?_⟩
 rw [eq427]
 unfold S427
 have c : gcall G none 417 [a, b, .int p, .int q] 2 = some [x, y] := gcall_on g417 rfl h rfl
 simp only [ev0, c]
def bsV : Option (Nat × Nat) → D | none => .flt 0 | some (_, v) => .flt v
attribute [local irreducible] tif tjoin fadd fmul fdiv i2f wide totL szM triP bstR bstP

end Vs
