/-
  Pairs of places, flips of edges, what is gained.
-/
import Derived.Test.YtaakjnkllodchaaGreatK27
set_option maxHeartbeats 4000000
namespace Vs
open Go Go.Sort
def pairP (n : Nat) (ts : List (List Int)) (p q : Int) : Bool := validP n ts && sheetP ts && inr n p && inr n q && (p != q)
def okP (n : Nat) (ts : List (List Int)) (p q : Int) : Bool := validP n ts && (inr n p && inr n q && (p != q))
def oneI (ts : List (List Int)) (p q : Int) : Int := if goesA ts p q ((atL ts p q).getD 0 0) = true then (atL ts p q).getD 0 0 else (atL ts p q).getD 1 0
def twoI (ts : List (List Int)) (p q : Int) : Int := if goesA ts p q ((atL ts p q).getD 0 0) = true then (atL ts p q).getD 1 0 else (atL ts p q).getD 0 0
def flC (ts : List (List Int)) (p q : Int) : Int := thirdP (ts.getD (oneI ts p q).toNat []) p q
def flD (ts : List (List Int)) (p q : Int) : Int := thirdP (ts.getD (twoI ts p q).toNat []) p q
def flipQ (ts : List (List Int)) (p q : Int) : Bool := (flC ts p q != flD ts p q) && decide ((atL ts (flC ts p q) (flD ts p q)).length = 0)
def flipB (ts : List (List Int)) (p q : Int) : Bool := decide ((atL ts p q).length = 2) && flipQ ts p q
def atV (vs : List V3) (p : Int) : V3 := vs.getD p.toNat ⟨0, 0, 0⟩
def lenP (vs : List V3) (p q : Int) : Nat := longP (fsub .f32 (atV vs p).x (atV vs q).x) (fsub .f32 (atV vs p).y (atV vs q).y) (fsub .f32 (atV vs p).z (atV vs q).z)
def gnP (vs : List V3) (ts : List (List Int)) (p q : Int) : Nat := fsub .f32 (lenP vs p q) (lenP vs (flC ts p q) (flD ts p q))
noncomputable def F409 : List D → Option (List D)
 | [a, b, .int p] => (dV a).bind fun vs => (dT b).bind fun ts => if szM vs ts ≤ 1048576 then some [.bool (validP vs.length ts && inr vs.length p)] else none
 | _ => none
theorem F409_m {vs : List V3} {ts : List (List Int)} {p : Int} (h : szM vs ts ≤ 1048576) : F409 [vl vs, tl ts, .int p] = some [.bool (validP vs.length ts && inr vs.length p)] := by
 simp only [F409, dV_vl, dT_tl, Option.bind_some]
 rw [if_pos h]
noncomputable def F410 : List D → Option (List D)
 | [a, b, .int p, .int q] => (dV a).bind fun vs => (dT b).bind fun ts => if szM vs ts ≤ 1048576 then some [.bool (pairP vs.length ts p q)] else none
 | _ => none
theorem F410_m {vs : List V3} {ts : List (List Int)} {p q : Int} (h : szM vs ts ≤ 1048576) : F410 [vl vs, tl ts, .int p, .int q] = some [.bool (pairP vs.length ts p q)] := by
 simp only [F410, dV_vl, dT_tl, Option.bind_some]
 rw [if_pos h]
def T409 : T :=
(cc 150 [0, 1] 1 <|
oT 3 .id [2] <|
oT 3 .id [0] <|
oT 3 .len [5] <|
oT 3 (.iar .sub .i64) [6, kI 1] <|
cT 3 19 [4, kI 0, 7] 1 <|
oo .pick [3, 8, kN] <|
.out 0 [9])
def S409 (G : Told) (_fuel : Nat) (x0 x1 x2 : D) : Option (Nat × List D) :=
 (gcall G none 150 [x0, x1] 1).bind fun e3 =>
 (gev (some ((e3.getD 0 .undef), true)) .id [x2]).bind fun x4 =>
 (gev (some ((e3.getD 0 .undef), true)) .id [x0]).bind fun x5 =>
 (gev (some ((e3.getD 0 .undef), true)) .len [x5]).bind fun x6 =>
 (gev (some ((e3.getD 0 .undef), true)) (.iar .sub .i64) [x6, .int 1]).bind fun x7 =>
 (gcall G (some ((e3.getD 0 .undef), true)) 19 [x4, .int 0, x7] 1).bind fun e8 =>
 (gev none .pick [e3.getD 0 .undef, e8.getD 0 .undef, .bool false]).bind fun x9 =>
 some (0, [x9])
theorem eq409 {G fuel} (x0 x1 x2) : run G fuel T409 [x0, x1, x2] = S409 G fuel x0 x1 x2 := by rw [run_eq]; kernel_rfl
def T410 : T :=
(cc 403 [0, 1] 1 <|
oT 4 .id [2] <|
cT 4 409 [0, 1, 5] 1 <|
oo .pick [4, 6, kN] <|
oT 7 .id [3] <|
cT 7 409 [0, 1, 8] 1 <|
oo .pick [7, 9, kN] <|
oT 10 .id [2] <|
oT 10 .id [3] <|
oT 10 (.icm .neq) [11, 12] <|
oo .pick [10, 13, kN] <|
.out 0 [14])
def S410 (G : Told) (_fuel : Nat) (x0 x1 x2 x3 : D) : Option (Nat × List D) :=
 (gcall G none 403 [x0, x1] 1).bind fun e4 =>
 (gev (some ((e4.getD 0 .undef), true)) .id [x2]).bind fun x5 =>
 (gcall G (some ((e4.getD 0 .undef), true)) 409 [x0, x1, x5] 1).bind fun e6 =>
 (gev none .pick [e4.getD 0 .undef, e6.getD 0 .undef, .bool false]).bind fun x7 =>
 (gev (some (x7, true)) .id [x3]).bind fun x8 =>
 (gcall G (some (x7, true)) 409 [x0, x1, x8] 1).bind fun e9 =>
 (gev none .pick [x7, e9.getD 0 .undef, .bool false]).bind fun x10 =>
 (gev (some (x10, true)) .id [x2]).bind fun x11 =>
 (gev (some (x10, true)) .id [x3]).bind fun x12 =>
 (gev (some (x10, true)) (.icm .neq) [x11, x12]).bind fun x13 =>
 (gev none .pick [x10, x13, .bool false]).bind fun x14 =>
 some (0, [x14])
theorem eq410 {G fuel} (x0 x1 x2 x3) : run G fuel T410 [x0, x1, x2, x3] = S410 G fuel x0 x1 x2 x3 := by rw [run_eq]; kernel_rfl
theorem vlnil : D.lst [] = vl [] := rfl
theorem tlnil : D.lst [] = tl [] := rfl
theorem bigI {n : Nat} (h : n ≤ 1048576) : IntKind.wrap .i64 ((n : Int) - 1) = (n : Int) - 1 := wrap_id (by omega) (by omega)
theorem inr_iff {n p : Int} : inr n p = true ↔ 0 ≤ p ∧ p < n := by
 unfold inr
 simp only [Bool.and_eq_true, decide_eq_true_eq]
 omega
theorem okP_ok {n : Nat} {ts : List (List Int)} {p q : Int} (h : okP n ts p q = true) : validP n ts = true ∧ (0 ≤ p ∧ p < n) ∧ (0 ≤ q ∧ q < n) ∧ p ≠ q := by
 unfold okP at h
 simp only [Bool.and_eq_true, inr_iff, bne_iff_ne, ne_eq] at h
 exact ⟨h.1, h.2.1.1, h.2.1.2, h.2.2⟩
theorem pair_ok {n : Nat} {ts : List (List Int)} {p q : Int} (h : pairP n ts p q = true) : okP n ts p q = true := by
 unfold pairP at h
 unfold okP
 simp only [Bool.and_eq_true] at h ⊢
 exact ⟨h.1.1.1.1, ⟨h.1.1.2, h.1.2⟩, h.2⟩
theorem has_comm (t : List Int) (p q : Int) : hasB t p q = hasB t q p := by unfold hasB; rw [Bool.and_comm]
theorem thirdB_of {x y z p q : Int} (h1 : x ≠ y) (h2 : y ≠ z) (h3 : x ≠ z) (h : p ≠ q) (hh : hasB [x, y, z] p q = true) (h4 : 0 ≤ x ∧ x < 64) (h5 : 0 ≤ y ∧ y < 64) (h6 : 0 ≤ z ∧ z < 64) : thirdB x y z p q = true := by
 unfold thirdB
 simp only [Bool.and_eq_true, decide_eq_true_eq]
 exact ⟨⟨⟨⟨⟨h1, h2⟩, h3⟩, h⟩, hh⟩, ⟨h4, h5⟩, h6⟩
theorem third_at {n : Nat} {ts : List (List Int)} (hv : validP n ts = true) {G : Told} (g408 : G 408 = F408) {p q j : Int} (hpq : p ≠ q) (h : j ∈ atL ts p q) :
  gcall G none 408 [il (ts.getD j.toNat []), .int p, .int q] 1 = some [.int (thirdP (ts.getD j.toNat []) p q)] ∧ gcall G none 408 [il (ts.getD j.toNat []), .int (min p q), .int (max p q)] 1 = some [.int (thirdP (ts.getD j.toNat []) p q)] ∧
   (0 ≤ thirdP (ts.getD j.toNat []) p q ∧ thirdP (ts.getD j.toNat []) p q < n) := by
 obtain ⟨hn, _⟩ := valid_len hv
 obtain ⟨x, y, z, ht, h1, h2, h3, h4, h5, h6, h7⟩ := atL_tri (triOk_of hv) h
 rw [ht]
 have hb := thirdB_of h1 h2 h3 hpq h7 ⟨h4.1, by omega⟩ ⟨h5.1, by omega⟩ ⟨h6.1, by omega⟩
 have hb2 : thirdB x y z (min p q) (max p q) = true := by
  refine thirdB_of h1 h2 h3 (by omega) ?_ ⟨h4.1, by omega⟩ ⟨h5.1, by omega⟩ ⟨h6.1, by omega⟩
  by_cases hle : p ≤ q
  ·rw [Int.min_eq_left hle, Int.max_eq_right hle]; exact h7
  ·rw [Int.min_eq_right (by omega), Int.max_eq_left (by omega), has_comm]; exact h7
 have e : thirdP [x, y, z] (min p q) (max p q) = thirdP [x, y, z] p q := by unfold thirdP; omega
 refine ⟨gcall_on g408 rfl (F408_m hb) rfl, ?_, ?_⟩
 ·rw [← e]; exact gcall_on g408 rfl (F408_m hb2) rfl
 ·have := thirdB_ok hb
  have e2 : thirdP [x, y, z] p q = x + y + z - p - q := rfl;rw [e2];omega
attribute [local irreducible] IntKind.wrap il tl vl bo mpD kD inr validP sheetP longP fsub

theorem run409 {G : Told} (g150 : G 150 = F150) (g19 : G 19 = F19) : Runs G F409 T409 := by
 intro ds rs h
 unfold F409 at h
 split at h
 case h_2 => cases h
 rename_i a b p
 obtain ⟨vs, ha, h⟩ := Option.bind_eq_some_iff.1 h
 obtain ⟨ts, hb, h⟩ := Option.bind_eq_some_iff.1 h
 rw [dV_inv ha, dT_inv hb]
 split at h
 case isFalse => cases h
 rename_i hc
 simp only [Option.some.injEq] at h
 subst h
 clear ha
 clear hb
 refine ⟨0, ?_⟩
 rw [eq409]
 unfold S409
 have hz : szM vs ts = vs.length + ts.length + totL ts := by unfold szM; rfl
 have hl := len_vl (l := vs)
 have hw := bigI (n := vs.length) (by omega)
 have c0 : gcall G none 150 [vl vs, tl ts] 1 = some [.bool (validP vs.length ts)] := gcall_on g150 rfl (F150_m hc) rfl
 have c : gcall G none 19 [.int p, .int 0, .int ((vs.length : Int) - 1)] 1 = some [.bool (inr vs.length p)] := gcall_on g19 rfl (F19_in _ _) rfl
 generalize validP vs.length ts = b1 at *
 generalize inr vs.length p = b2 at *
 cases b1 <;> simp only [ev0, p_sub, List.replicate, hl, hw, c, c0, Bool.true_and, Bool.false_and]
theorem run410 {G : Told} (g403 : G 403 = F403) (g409 : G 409 = F409) : Runs G F410 T410 := by
 intro ds rs h
 unfold F410 at h
 split at h
 case h_2 => cases h
 rename_i a b p q
 obtain ⟨vs, ha, h⟩ := Option.bind_eq_some_iff.1 h
 obtain ⟨ts, hb, h⟩ := Option.bind_eq_some_iff.1 h
 rw [dV_inv ha, dT_inv hb]
 split at h
 case isFalse => cases h
 rename_i hc
 simp only [Option.some.injEq] at h
 subst h
 clear ha
 clear hb
 refine ⟨0, ?_⟩
 rw [eq410]
 unfold S410
 have c0 : gcall G none 403 [vl vs, tl ts] 1 = some [.bool (validP vs.length ts && sheetP ts)] := gcall_on g403 rfl (F403_m hc) rfl
 have c1 : gcall G none 409 [vl vs, tl ts, .int p] 1 = some [.bool (validP vs.length ts && inr vs.length p)] := gcall_on g409 rfl (F409_m hc) rfl
 have c2 : gcall G none 409 [vl vs, tl ts, .int q] 1 = some [.bool (validP vs.length ts && inr vs.length q)] := gcall_on g409 rfl (F409_m hc) rfl
 have hn : gev none (.icm .neq) [.int p, .int q] = some (.bool (p != q)) := rfl
 unfold pairP
 generalize validP vs.length ts = b1 at *
 generalize sheetP ts = b2 at *
 generalize inr vs.length p = b3 at *
 generalize inr vs.length q = b4 at *
 generalize (p != q) = b5 at *
 cases b1 <;> cases b2 <;> cases b3 <;> cases b4 <;> cases b5 <;>
  repeat' first
   | ((with_reducible apply st_some); exact c0)
   | ((with_reducible apply st_some); exact c1)
   | ((with_reducible apply st_some); exact c2)
   | ((with_reducible apply st_some); exact hn)
   | ((with_reducible apply st_skip); exact rfl)
   | ((with_reducible apply st_t); exact rfl; exact rfl)
   | ((with_reducible apply st_f); exact rfl; exact rfl)
   | ((with_reducible apply st_some); exact rfl)
   | exact rfl
end Vs
