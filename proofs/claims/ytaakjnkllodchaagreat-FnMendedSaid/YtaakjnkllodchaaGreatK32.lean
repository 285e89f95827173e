/-
  The best edge of a mesh: the reference, and the laws ShortestEdge, LongestEdge, BestFlip.
-/
import Derived.Test.YtaakjnkllodchaaGreatK29
set_option maxHeartbeats 4000000
namespace Vs
open Go Go.Sort
def betO (bet : Nat → Nat → Bool) : Option (Nat × Nat) → Nat → Bool
 | none, _ => true
 | some (_, v), x => bet x v
def bstS (num : E2 → Option Nat) (bet : Nat → Nat → Bool) (es : List E2) (st : Option (Nat × Nat)) (i : Nat) : Option (Nat × Nat) :=
 match num (es.getD i (0, 0)) with
 | none => st
 | some x => if (feq .f32 x x && betO bet st x) = true then some (i, x) else st
def bstN (num : E2 → Option Nat) (bet : Nat → Nat → Bool) (es : List E2) : Nat → Option (Nat × Nat)
 | 0 => none
 | i + 1 => bstS num bet es (bstN num bet es i) i
def bstR (es : List E2) : Option (Nat × Nat) → List D
 | none => [il [], .flt 0, .bool false]
 | some (j, v) => [il [(es.getD j (0, 0)).1, (es.getD j (0, 0)).2], .flt v, .bool true]
def bstP (num : E2 → Option Nat) (bet : Nat → Nat → Bool) (es : List E2) : List D := bstR es (bstN num bet es es.length)
def numL (vs : List V3) (e : E2) : Option Nat := some (lenP vs e.1 e.2)
def numF (vs : List V3) (ts : List (List Int)) (e : E2) : Option Nat := if flipB ts e.1 e.2 = true then some (gnP vs ts e.1 e.2) else none
def betL (l : Bool) (x v : Nat) : Bool := if l = true then fgt .f32 x v else flt .f32 x v
theorem bstN_lt {num : E2 → Option Nat} {bet : Nat → Nat → Bool} {es : List E2} : ∀ {i j v : Nat}, bstN num bet es i = some (j, v) → j < i
 | 0, _, _, h => by cases h
 | i + 1, j, v, h => by
  have h : bstS num bet es (bstN num bet es i) i = some (j, v) := h;unfold bstS at h;split at h
  ·exact Nat.lt_succ_of_lt (bstN_lt h)
  ·split at h
   ·simp only [Option.some.injEq, Prod.mk.injEq] at h
    omega
   ·exact Nat.lt_succ_of_lt (bstN_lt h)
theorem bstS_some {num : E2 → Option Nat} {bet : Nat → Nat → Bool} {es : List E2} {st : Option (Nat × Nat)} {i x : Nat} (h : num (es.getD i (0, 0)) = some x) : bstS num bet es st i = if (feq .f32 x x && betO bet st x) = true then some (i, x) else st := by
 unfold bstS
 rw [h]
theorem bstS_none {num : E2 → Option Nat} {bet : Nat → Nat → Bool} {es : List E2} {st : Option (Nat × Nat)} {i : Nat} (h : num (es.getD i (0, 0)) = none) : bstS num bet es st i = st := by
 unfold bstS
 rw [h]
theorem bstR_none {es : List E2} : bstR es none = [il [], .flt 0, .bool false] := (rfl)
theorem bstR_some {es : List E2} {j v : Nat} {p q : Int} (h : es.getD j (0, 0) = (p, q)) : bstR es (some (j, v)) = [il [p, q], .flt v, .bool true] := by
 unfold bstR
 simp only [h]
theorem bst3 (es : List E2) (st : Option (Nat × Nat)) : ∃ l x b, bstR es st = [il l, .flt x, .bool b] ∧ l.length ≤ 1048576 := by
 cases st with
 | none => exact ⟨_, _, _, rfl, by simp⟩
 | some s => exact ⟨_, _, _, rfl, by simp⟩
noncomputable def F425 : List D → Option (List D)
 | [a, _, .int p, .int q] => (dV a).bind fun vs => if inr vs.length p && inr vs.length q then some [.flt (lenP vs p q)] else none
 | _ => none
theorem F425_m {vs : List V3} {b : D} {p q : Int} (h : (inr vs.length p && inr vs.length q) = true) : F425 [vl vs, b, .int p, .int q] = some [.flt (lenP vs p q)] := by
 simp only [F425, dV_vl, Option.bind_some]
 rw [if_pos h]
noncomputable def F426 : List D → Option (List D)
 | [.int p, .int q, a, _] => (dV a).bind fun vs => if inr vs.length p && inr vs.length q then some [.flt (lenP vs p q), .bool true] else none
 | _ => none
theorem F426_m {vs : List V3} {b : D} {p q : Int} (h : (inr vs.length p && inr vs.length q) = true) : F426 [.int p, .int q, vl vs, b] = some [.flt (lenP vs p q), .bool true] := by
 simp only [F426, dV_vl, Option.bind_some]
 rw [if_pos h]
noncomputable def F427 : List D → Option (List D)
 | [.int p, .int q, a, b] => F417 [a, b, .int p, .int q]
 | _ => none
def F428 : List D → Option (List D) | [.flt x, .flt y] => some [.bool (fgt .f32 x y)] | _ => none
def F429 : List D → Option (List D) | [.flt x, .flt y] => some [.bool (flt .f32 x y)] | _ => none
noncomputable def F434 : List D → Option (List D)
 | [a, b] => (dV a).bind fun vs => (dT b).bind fun ts => if szM vs ts ≤ 1048576 then some (if validP vs.length ts = true then bstP (numL vs) (betL true) (edgL ts vs.length) else bstR [] none) else none
 | _ => none
theorem F434_m {vs : List V3} {ts : List (List Int)} (h : szM vs ts ≤ 1048576) : F434 [vl vs, tl ts] = some (if validP vs.length ts = true then bstP (numL vs) (betL true) (edgL ts vs.length) else bstR [] none) := by
 simp only [F434, dV_vl, dT_tl, Option.bind_some]
 rw [if_pos h]
noncomputable def F435 : List D → Option (List D)
 | [a, b] => (dV a).bind fun vs => (dT b).bind fun ts => if szM vs ts ≤ 1048576 then some (if validP vs.length ts = true then bstP (numL vs) (betL false) (edgL ts vs.length) else bstR [] none) else none
 | _ => none
theorem F435_m {vs : List V3} {ts : List (List Int)} (h : szM vs ts ≤ 1048576) : F435 [vl vs, tl ts] = some (if validP vs.length ts = true then bstP (numL vs) (betL false) (edgL ts vs.length) else bstR [] none) := by
 simp only [F435, dV_vl, dT_tl, Option.bind_some]
 rw [if_pos h]
noncomputable def F436 : List D → Option (List D)
 | [a, b] => (dV a).bind fun vs => (dT b).bind fun ts => if szM vs ts ≤ 1048576 then some (if (validP vs.length ts && sheetP ts) = true then bstP (numF vs ts) (betL true) (edgL ts vs.length) else bstR [] none) else none
 | _ => none
theorem F436_m {vs : List V3} {ts : List (List Int)} (h : szM vs ts ≤ 1048576) : F436 [vl vs, tl ts] = some (if (validP vs.length ts && sheetP ts) = true then bstP (numF vs ts) (betL true) (edgL ts vs.length) else bstR [] none) := by
 simp only [F436, dV_vl, dT_tl, Option.bind_some]
 rw [if_pos h]
def T425 : T :=
(oo .idx [0, 2] <|
oo (.proj 0) [4] <|
oo (.proj 1) [4] <|
oo (.proj 2) [4] <|
oo .idx [0, 3] <|
oo (.proj 0) [8] <|
oo (.proj 1) [8] <|
oo (.proj 2) [8] <|
cc 13 [5, 6, 7, 9, 10, 11] 3 <|
cc 15 [12, 13, 14] 1 <|
.out 0 [15])
def S425 (G : Told) (_fuel : Nat) (x0 _x1 x2 x3 : D) : Option (Nat × List D) :=
 (gev none .idx [x0, x2]).bind fun x4 =>
 (gev none (.proj 0) [x4]).bind fun x5 =>
 (gev none (.proj 1) [x4]).bind fun x6 =>
 (gev none (.proj 2) [x4]).bind fun x7 =>
 (gev none .idx [x0, x3]).bind fun x8 =>
 (gev none (.proj 0) [x8]).bind fun x9 =>
 (gev none (.proj 1) [x8]).bind fun x10 =>
 (gev none (.proj 2) [x8]).bind fun x11 =>
 (gcall G none 13 [x5, x6, x7, x9, x10, x11] 3).bind fun e12 =>
 (gcall G none 15 [e12.getD 0 .undef, e12.getD 1 .undef, e12.getD 2 .undef] 1).bind fun e15 =>
 some (0, [e15.getD 0 .undef])
theorem eq425 {G fuel} (x0 x1 x2 x3) : run G fuel T425 [x0, x1, x2, x3] = S425 G fuel x0 x1 x2 x3 := by rw [run_eq]; kernel_rfl
def T426 : T :=
(cc 425 [2, 3, 0, 1] 1 <|
.out 0 [4, kT])
def S426 (G : Told) (_fuel : Nat) (x0 x1 x2 x3 : D) : Option (Nat × List D) :=
 (gcall G none 425 [x2, x3, x0, x1] 1).bind fun e4 =>
 some (0, [e4.getD 0 .undef, .bool true])
theorem eq426 {G fuel} (x0 x1 x2 x3) : run G fuel T426 [x0, x1, x2, x3] = S426 G fuel x0 x1 x2 x3 := by rw [run_eq]; kernel_rfl
def T427 : T :=
(cc 417 [2, 3, 0, 1] 2 <|
.out 0 [4, 5])
def S427 (G : Told) (_fuel : Nat) (x0 x1 x2 x3 : D) : Option (Nat × List D) :=
 (gcall G none 417 [x2, x3, x0, x1] 2).bind fun e4 =>
 some (0, [e4.getD 0 .undef, e4.getD 1 .undef])
theorem eq427 {G fuel} (x0 x1 x2 x3) : run G fuel T427 [x0, x1, x2, x3] = S427 G fuel x0 x1 x2 x3 := by rw [run_eq]; kernel_rfl
def T428 : T :=
(oo (.fcm .gtr .f32) [0, 1] <|
.out 0 [2])
def S428 (_G : Told) (_fuel : Nat) (x0 x1 : D) : Option (Nat × List D) :=
 (gev none (.fcm .gtr .f32) [x0, x1]).bind fun x2 =>
 some (0, [x2])
theorem eq428 {G fuel} (x0 x1) : run G fuel T428 [x0, x1] = S428 G fuel x0 x1 := by rw [run_eq]; kernel_rfl
def T429 : T :=
(oo (.fcm .lss .f32) [0, 1] <|
.out 0 [2])
def S429 (_G : Told) (_fuel : Nat) (x0 x1 : D) : Option (Nat × List D) :=
 (gev none (.fcm .lss .f32) [x0, x1]).bind fun x2 =>
 some (0, [x2])
theorem eq429 {G fuel} (x0 x1) : run G fuel T429 [x0, x1] = S429 G fuel x0 x1 := by rw [run_eq]; kernel_rfl
theorem edg_get {n : Nat} {ts : List (List Int)} {i : Nat} (h : i < (edgL ts n).length) : ∃ p q : Int, (edgL ts n).getD i (0, 0) = (p, q) ∧ (inr n p && inr n q) = true ∧ p ≠ q ∧ gev none .idx [tl (etl (edgL ts n)), .int (i : Int)] = some (il [p, q]) := by
 have hm : (edgL ts n)[i] ∈ edgN ts n n := List.getElem_mem h
 obtain ⟨a, b, ha, hb, hab, _, he⟩ := (edgN_mem ts n n _).1 hm
 refine ⟨a, b, by rw [getD_lt h, he], ?_, by omega, ?_⟩
 ·rw [Bool.and_eq_true, inr_iff, inr_iff]
  omega
 ·rw [idx_tl (by rw [etl_len]; exact h)]
  simp [etl, he]
theorem edg_len {n : Nat} {ts : List (List Int)} (h : n ≤ 64) : (edgL ts n).length ≤ 4096 :=
 Nat.le_trans (edgN_len ts n n) (Nat.mul_le_mul h h)
theorem ok_of {n : Nat} {ts : List (List Int)} {p q : Int} (hv : validP n ts = true) (h : (inr n p && inr n q) = true) (hpq : p ≠ q) : okP n ts p q = true := by
 unfold okP
 rw [hv, h]
 simp [hpq]
theorem run428 {G : Told} : Runs G F428 T428 := by
 intro ds rs h
 unfold F428 at h
 split at h <;> simp only [Option.some.injEq, reduceCtorEq] at h
 subst h
 refine ⟨0, ?_⟩
 rw [eq428]
 rfl
theorem run429 {G : Told} : Runs G F429 T429 := by
 intro ds rs h
 unfold F429 at h
 split at h <;> simp only [Option.some.injEq, reduceCtorEq] at h
 subst h
 refine ⟨0, ?_⟩
 rw [eq429]
 rfl
attribute [local irreducible] IntKind.wrap il tl vl bo mpD kD inr validP sheetP longP fsub lenP atV flC flD oneI twoI pairP flipQ atL thirdP fgt flt fge feq flipB gnP edgL etl

theorem run425 {G : Told} (g13 : G 13 = F13) (g15 : G 15 = F15) : Runs G F425 T425 := by
 intro ds rs h
 unfold F425 at h
 split at h
 case h_2 => cases h
 rename_i a b p q
 obtain ⟨vs, ha, h⟩ := Option.bind_eq_some_iff.1 h
 rw [dV_inv ha]
 split at h
 case isFalse => cases h
 rename_i hc
 simp only [Option.some.injEq] at h
 subst h
 clear ha
 have hc2 := hc
 rw [Bool.and_eq_true, inr_iff, inr_iff] at hc2
 obtain ⟨hp, hq⟩ := hc2
 refine ⟨0, ?_⟩
 rw [eq425]
 unfold S425
 have hv1 : gev none .idx [vl vs, .int p] = some (vec (atV vs p)) := by unfold atV; exact p_vj hp.1 (by omega)
 have hv2 : gev none .idx [vl vs, .int q] = some (vec (atV vs q)) := by unfold atV; exact p_vj hq.1 (by omega)
 have c13 : ∀ a b c x y z : Nat, gcall G none 13 [.flt a, .flt b, .flt c, .flt x, .flt y, .flt z] 3 = some [.flt (fsub .f32 a x), .flt (fsub .f32 b y), .flt (fsub .f32 c z)] := fun a b c x y z => gcall_on g13 rfl rfl rfl
 have c15 : gcall G none 15 [.flt (fsub .f32 (atV vs p).x (atV vs q).x), .flt (fsub .f32 (atV vs p).y (atV vs q).y), .flt (fsub .f32 (atV vs p).z (atV vs q).z)] 1 = some [.flt (lenP vs p q)] := by unfold lenP; exact gcall_on g15 rfl rfl rfl
 simp only [ev0, p_v0, p_v1, p_v2, hv1, hv2, c13, c15]
theorem run426 {G : Told} (g425 : G 425 = F425) : Runs G F426 T426 := by
 intro ds rs h
 unfold F426 at h
 split at h
 case h_2 => cases h
 rename_i p q a b
 obtain ⟨vs, ha, h⟩ := Option.bind_eq_some_iff.1 h
 rw [dV_inv ha]
 split at h
 case isFalse => cases h
 rename_i hc
 simp only [Option.some.injEq] at h
 subst h
 clear ha
 refine ⟨0, ?_⟩
 rw [eq426]
 unfold S426
 have c : gcall G none 425 [vl vs, b, .int p, .int q] 1 = some [.flt (lenP vs p q)] := gcall_on g425 rfl (F425_m hc) rfl
 simp only [Option.bind_some, List.getD_cons_zero, c]
theorem run427 {G : Told} (g417 : G 417 = F417) : Runs G F427 T427 := by
 intro ds rs h
 unfold F427 at h
 split at h
 case h_2 => cases h
 rename_i p q a b
 have hl : ∃ x y, rs = [x, y] := by
  unfold F417 at h;obtain ⟨vs, ha, h⟩ := Option.bind_eq_some_iff.1 h;obtain ⟨ts, hb, h⟩ := Option.bind_eq_some_iff.1 h;split at h
  ·simp only [Option.some.injEq] at h
   subst h;split <;> exact ⟨_, _, rfl⟩
  ·cases h
 obtain ⟨x, y, rfl⟩ := hl
 refine ⟨0, ?_⟩
 rw [eq427]
 unfold S427
 have c : gcall G none 417 [a, b, .int p, .int q] 2 = some [x, y] := gcall_on g417 rfl h rfl
 simp only [ev0, c]
def bsV : Option (Nat × Nat) → D | none => .flt 0 | some (_, v) => .flt v
attribute [local irreducible] tif tjoin fadd fmul fdiv i2f wide totL szM triP bstR bstP

end Vs
