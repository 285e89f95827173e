/-
  Pairs of places, flips of edges, what is gained.
-/
import Derived.Test.YtflfikfcbohddaaK27
namespace Vs
open Go Go.Sort
def pairP (n : Nat) (ts : List (List Int)) (p q : Int) : Bool := validP n ts && sheetP ts && inr n p && inr n q && (p != q)
def okP (n : Nat) (ts : List (List Int)) (p q : Int) : Bool := validP n ts && (inr n p && inr n q && (p != q))
noncomputable def F448 : List D → Option (List D)
 | [a, _, .int p] => (dV a).bind fun vs => if vs.length ≤ 1048576 then some [.bool (inr vs.length p)] else none
 | _ => none
theorem F448_m {vs : List V3} {b : D} {p : Int} (h : vs.length ≤ 1048576) : F448 [vl vs, b, .int p] = some [.bool (inr vs.length p)] := by
 simp only [F448, dV_vl, Option.bind_some]
 rw [if_pos h]
noncomputable def F409 : List D → Option (List D)
 | [a, b, .int p] => (dV a).bind fun vs => (dT b).bind fun ts => if szM vs ts ≤ 1048576 then some [.bool (validP vs.length ts && inr vs.length p)] else none
 | _ => none
theorem F409_m {vs : List V3} {ts : List (List Int)} {p : Int} (h : szM vs ts ≤ 1048576) : F409 [vl vs, tl ts, .int p] = some [.bool (validP vs.length ts && inr vs.length p)] := by
 simp only [F409, dV_vl, dT_tl, Option.bind_some]
 rw [if_pos h]
noncomputable def F410 : List D → Option (List D)
 | [a, b, .int p, .int q] => (dV a).bind fun vs => (dT b).bind fun ts => if szM vs ts ≤ 1048576 then some [.bool (pairP vs.length ts p q)] else none
 | _ => none
theorem F410_m {vs : List V3} {ts : List (List Int)} {p q : Int} (h : szM vs ts ≤ 1048576) : F410 [vl vs, tl ts, .int p, .int q] = some [.bool (pairP vs.length ts p q)] := by
 simp only [F410, dV_vl, dT_tl, Option.bind_some]
 rw [if_pos h]
def T448 : T :=
(.op none .len [.v 0] <|
.op none (.iar .sub .i64) [.v 3, .c (.int 1)] <|
.call none 19 [.v 2, .c (.int 0), .v 4] 1 <|
.out 0 [.v 5])
def S448 (G : Told) (_fuel : Nat) (x0 _x1 x2 : D) : Option (Nat × List D) :=
 (gev none .len [x0]).bind fun x3 =>
 (gev none (.iar .sub .i64) [x3, .int 1]).bind fun x4 =>
 (gcall G none 19 [x2, .int 0, x4] 1).bind fun e5 =>
 some (0, [e5.getD 0 .undef])
theorem eq448 {G : Told} {fuel : Nat} (x0 x1 x2 : D) : run G fuel T448 [x0, x1, x2] = S448 G fuel x0 x1 x2 := by
 rw [run_eq]; kernel_rfl
def T409 : T :=
(.call none 150 [.v 0, .v 1] 1 <|
.op (some (.v 3, true)) .id [.v 2] <|
.op (some (.v 3, true)) .id [.v 0] <|
.op (some (.v 3, true)) .len [.v 5] <|
.op (some (.v 3, true)) (.iar .sub .i64) [.v 6, .c (.int 1)] <|
.call (some (.v 3, true)) 19 [.v 4, .c (.int 0), .v 7] 1 <|
.op none .pick [.v 3, .v 8, .c (.bool false)] <|
.out 0 [.v 9])
def S409 (G : Told) (_fuel : Nat) (x0 x1 x2 : D) : Option (Nat × List D) :=
 (gcall G none 150 [x0, x1] 1).bind fun e3 =>
 (gev (some ((e3.getD 0 .undef), true)) .id [x2]).bind fun x4 =>
 (gev (some ((e3.getD 0 .undef), true)) .id [x0]).bind fun x5 =>
 (gev (some ((e3.getD 0 .undef), true)) .len [x5]).bind fun x6 =>
 (gev (some ((e3.getD 0 .undef), true)) (.iar .sub .i64) [x6, .int 1]).bind fun x7 =>
 (gcall G (some ((e3.getD 0 .undef), true)) 19 [x4, .int 0, x7] 1).bind fun e8 =>
 (gev none .pick [e3.getD 0 .undef, e8.getD 0 .undef, .bool false]).bind fun x9 =>
 some (0, [x9])
theorem eq409 {G : Told} {fuel : Nat} (x0 x1 x2 : D) : run G fuel T409 [x0, x1, x2] = S409 G fuel x0 x1 x2 := by
 rw [run_eq]; kernel_rfl
def T410 : T :=
(.call none 403 [.v 0, .v 1] 1 <|
.op (some (.v 4, true)) .id [.v 2] <|
.call (some (.v 4, true)) 409 [.v 0, .v 1, .v 5] 1 <|
.op none .pick [.v 4, .v 6, .c (.bool false)] <|
.op (some (.v 7, true)) .id [.v 3] <|
.call (some (.v 7, true)) 409 [.v 0, .v 1, .v 8] 1 <|
.op none .pick [.v 7, .v 9, .c (.bool false)] <|
.op (some (.v 10, true)) .id [.v 2] <|
.op (some (.v 10, true)) .id [.v 3] <|
.op (some (.v 10, true)) (.icm .neq) [.v 11, .v 12] <|
.op none .pick [.v 10, .v 13, .c (.bool false)] <|
.out 0 [.v 14])
def S410 (G : Told) (_fuel : Nat) (x0 x1 x2 x3 : D) : Option (Nat × List D) :=
 (gcall G none 403 [x0, x1] 1).bind fun e4 =>
 (gev (some ((e4.getD 0 .undef), true)) .id [x2]).bind fun x5 =>
 (gcall G (some ((e4.getD 0 .undef), true)) 409 [x0, x1, x5] 1).bind fun e6 =>
 (gev none .pick [e4.getD 0 .undef, e6.getD 0 .undef, .bool false]).bind fun x7 =>
 (gev (some (x7, true)) .id [x3]).bind fun x8 =>
 (gcall G (some (x7, true)) 409 [x0, x1, x8] 1).bind fun e9 =>
 (gev none .pick [x7, e9.getD 0 .undef, .bool false]).bind fun x10 =>
 (gev (some (x10, true)) .id [x2]).bind fun x11 =>
 (gev (some (x10, true)) .id [x3]).bind fun x12 =>
 (gev (some (x10, true)) (.icm .neq) [x11, x12]).bind fun x13 =>
 (gev none .pick [x10, x13, .bool false]).bind fun x14 =>
 some (0, [x14])
theorem eq410 {G : Told} {fuel : Nat} (x0 x1 x2 x3 : D) : run G fuel T410 [x0, x1, x2, x3] = S410 G fuel x0 x1 x2 x3 := by
 rw [run_eq]; kernel_rfl
def T410s : T :=
(.call none 150 [.v 0, .v 1] 1 <|
.op (some (.v 4, true)) .id [.v 2] <|
.call (some (.v 4, true)) 448 [.v 0, .v 1, .v 5] 1 <|
.op none .pick [.v 4, .v 6, .c (.bool false)] <|
.op (some (.v 7, true)) .id [.v 3] <|
.call (some (.v 7, true)) 448 [.v 0, .v 1, .v 8] 1 <|
.op none .pick [.v 7, .v 9, .c (.bool false)] <|
.op (some (.v 10, true)) .id [.v 2] <|
.op (some (.v 10, true)) .id [.v 3] <|
.op (some (.v 10, true)) (.icm .neq) [.v 11, .v 12] <|
.op none .pick [.v 10, .v 13, .c (.bool false)] <|
.call (some (.v 14, true)) 414 [.v 0, .v 1] 1 <|
.op none .pick [.v 14, .v 15, .c (.bool false)] <|
.out 0 [.v 16])
def S410s (G : Told) (_fuel : Nat) (x0 x1 x2 x3 : D) : Option (Nat × List D) :=
 (gcall G none 150 [x0, x1] 1).bind fun e4 =>
 (gev (some ((e4.getD 0 .undef), true)) .id [x2]).bind fun x5 =>
 (gcall G (some ((e4.getD 0 .undef), true)) 448 [x0, x1, x5] 1).bind fun e6 =>
 (gev none .pick [e4.getD 0 .undef, e6.getD 0 .undef, .bool false]).bind fun x7 =>
 (gev (some (x7, true)) .id [x3]).bind fun x8 =>
 (gcall G (some (x7, true)) 448 [x0, x1, x8] 1).bind fun e9 =>
 (gev none .pick [x7, e9.getD 0 .undef, .bool false]).bind fun x10 =>
 (gev (some (x10, true)) .id [x2]).bind fun x11 =>
 (gev (some (x10, true)) .id [x3]).bind fun x12 =>
 (gev (some (x10, true)) (.icm .neq) [x11, x12]).bind fun x13 =>
 (gev none .pick [x10, x13, .bool false]).bind fun x14 =>
 (gcall G (some (x14, true)) 414 [x0, x1] 1).bind fun e15 =>
 (gev none .pick [x14, e15.getD 0 .undef, .bool false]).bind fun x16 =>
 some (0, [x16])
theorem eq410s {G : Told} {fuel : Nat} (x0 x1 x2 x3 : D) : run G fuel T410s [x0, x1, x2, x3] = S410s G fuel x0 x1 x2 x3 := by
 rw [run_eq]; kernel_rfl
theorem vlnil : D.lst [] = vl [] := rfl
theorem tlnil : D.lst [] = tl [] := rfl
theorem bigI {n : Nat} (h : n ≤ 1048576) : IntKind.wrap .i64 ((n : Int) - 1) = (n : Int) - 1 := wrap_id (by omega) (by omega)
theorem inr_iff {n p : Int} : inr n p = true ↔ 0 ≤ p ∧ p < n := by
 unfold inr
 simp only [Bool.and_eq_true, decide_eq_true_eq]
 omega
theorem okP_ok {n : Nat} {ts : List (List Int)} {p q : Int} (h : okP n ts p q = true) : validP n ts = true ∧ (0 ≤ p ∧ p < n) ∧ (0 ≤ q ∧ q < n) ∧ p ≠ q := by
 unfold okP at h
 simp only [Bool.and_eq_true, inr_iff, bne_iff_ne, ne_eq] at h
 exact ⟨h.1, h.2.1.1, h.2.1.2, h.2.2⟩
theorem pair_ok {n : Nat} {ts : List (List Int)} {p q : Int} (h : pairP n ts p q = true) : okP n ts p q = true := by
 unfold pairP at h
 unfold okP
 simp only [Bool.and_eq_true] at h ⊢
 exact ⟨h.1.1.1.1, ⟨h.1.1.2, h.1.2⟩, h.2⟩
attribute [local irreducible] IntKind.wrap il tl vl bo mpD kD inr validP sheetP fsub

set_option maxHeartbeats 4000000 in
theorem run448 {G : Told} (g19 : G 19 = F19) : ∀ ds rs, F448 ds = some rs → ∃ fuel, run G fuel T448 ds = some (0, rs) := by
 intro ds rs h
 unfold F448 at h
 split at h
 case h_2 => cases h
 rename_i a b p
 obtain ⟨vs, ha, h⟩ := Option.bind_eq_some_iff.1 h
 rw [dV_inv ha]
 split at h
 case isFalse => cases h
 rename_i hc
 simp only [Option.some.injEq] at h
 subst h
 clear ha
 refine ⟨0, ?_⟩
 rw [eq448]
 unfold S448
 have hl := len_vl (l := vs)
 have hw := bigI hc
 have c : gcall G none 19 [.int p, .int 0, .int ((vs.length : Int) - 1)] 1 = some [.bool (inr vs.length p)] := gcall_on g19 rfl (F19_in _ _) rfl
 simp only [p_sub, Option.bind_some, List.getD_cons_zero, hl, hw, c]
set_option maxHeartbeats 4000000 in
theorem run409 {G : Told} (g150 : G 150 = F150) (g19 : G 19 = F19) : ∀ ds rs, F409 ds = some rs → ∃ fuel, run G fuel T409 ds = some (0, rs) := by
 intro ds rs h
 unfold F409 at h
 split at h
 case h_2 => cases h
 rename_i a b p
 obtain ⟨vs, ha, h⟩ := Option.bind_eq_some_iff.1 h
 obtain ⟨ts, hb, h⟩ := Option.bind_eq_some_iff.1 h
 rw [dV_inv ha, dT_inv hb]
 split at h
 case isFalse => cases h
 rename_i hc
 simp only [Option.some.injEq] at h
 subst h
 clear ha
 clear hb
 refine ⟨0, ?_⟩
 rw [eq409]
 unfold S409
 have hz : szM vs ts = vs.length + ts.length + totL ts := by unfold szM; rfl
 have hl := len_vl (l := vs)
 have hw := bigI (n := vs.length) (by omega)
 have c0 : gcall G none 150 [vl vs, tl ts] 1 = some [.bool (validP vs.length ts)] := gcall_on g150 rfl (F150_m hc) rfl
 have c : gcall G none 19 [.int p, .int 0, .int ((vs.length : Int) - 1)] 1 = some [.bool (inr vs.length p)] := gcall_on g19 rfl (F19_in _ _) rfl
 generalize validP vs.length ts = b1 at *
 generalize inr vs.length p = b2 at *
 cases b1 <;> simp only [g_tt, g_ft, c_tt, c_ft, p_id, p_sub, p_pt, p_pf, Option.bind_some, List.getD_cons_zero, List.replicate, hl, hw, c, c0, Bool.true_and, Bool.false_and]
set_option maxHeartbeats 4000000 in
theorem run410 {G : Told} (g403 : G 403 = F403) (g409 : G 409 = F409) : ∀ ds rs, F410 ds = some rs → ∃ fuel, run G fuel T410 ds = some (0, rs) := by
 intro ds rs h
 unfold F410 at h
 split at h
 case h_2 => cases h
 rename_i a b p q
 obtain ⟨vs, ha, h⟩ := Option.bind_eq_some_iff.1 h
 obtain ⟨ts, hb, h⟩ := Option.bind_eq_some_iff.1 h
 rw [dV_inv ha, dT_inv hb]
 split at h
 case isFalse => cases h
 rename_i hc
 simp only [Option.some.injEq] at h
 subst h
 clear ha
 clear hb
 refine ⟨0, ?_⟩
 rw [eq410]
 unfold S410
 have c0 : gcall G none 403 [vl vs, tl ts] 1 = some [.bool (validP vs.length ts && sheetP ts)] := gcall_on g403 rfl (F403_m hc) rfl
 have c1 : gcall G none 409 [vl vs, tl ts, .int p] 1 = some [.bool (validP vs.length ts && inr vs.length p)] := gcall_on g409 rfl (F409_m hc) rfl
 have c2 : gcall G none 409 [vl vs, tl ts, .int q] 1 = some [.bool (validP vs.length ts && inr vs.length q)] := gcall_on g409 rfl (F409_m hc) rfl
 have hn : gev none (.icm .neq) [.int p, .int q] = some (.bool (p != q)) := rfl
 unfold pairP
 generalize validP vs.length ts = b1 at *
 generalize sheetP ts = b2 at *
 generalize inr vs.length p = b3 at *
 generalize inr vs.length q = b4 at *
 generalize (p != q) = b5 at *
 cases b1 <;> cases b2 <;> cases b3 <;> cases b4 <;> cases b5 <;>
  repeat' first
   | ((with_reducible apply st_some); exact c0)
   | ((with_reducible apply st_some); exact c1)
   | ((with_reducible apply st_some); exact c2)
   | ((with_reducible apply st_some); exact hn)
   | ((with_reducible apply st_skip); exact rfl)
   | ((with_reducible apply st_t); exact rfl; exact rfl)
   | ((with_reducible apply st_f); exact rfl; exact rfl)
   | ((with_reducible apply st_some); exact rfl)
   | exact rfl
set_option maxHeartbeats 4000000 in
theorem run410s {G : Told} (g150 : G 150 = F150) (g448 : G 448 = F448) (g414 : G 414 = F414) : ∀ ds rs, F410 ds = some rs → ∃ fuel, run G fuel T410s ds = some (0, rs) := by
 intro ds rs h
 unfold F410 at h
 split at h
 case h_2 => cases h
 rename_i a b p q
 obtain ⟨vs, ha, h⟩ := Option.bind_eq_some_iff.1 h
 obtain ⟨ts, hb, h⟩ := Option.bind_eq_some_iff.1 h
 rw [dV_inv ha, dT_inv hb]
 split at h
 case isFalse => cases h
 rename_i hc
 simp only [Option.some.injEq] at h
 subst h
 clear ha
 clear hb
 refine ⟨0, ?_⟩
 rw [eq410s]
 unfold S410s
 have hz : szM vs ts = vs.length + ts.length + totL ts := by unfold szM; rfl
 have c0 : gcall G none 150 [vl vs, tl ts] 1 = some [.bool (validP vs.length ts)] := gcall_on g150 rfl (F150_m hc) rfl
 have c1 : gcall G none 448 [vl vs, tl ts, .int p] 1 = some [.bool (inr vs.length p)] := gcall_on g448 rfl (F448_m (by omega)) rfl
 have c2 : gcall G none 448 [vl vs, tl ts, .int q] 1 = some [.bool (inr vs.length q)] := gcall_on g448 rfl (F448_m (by omega)) rfl
 have hn : gev none (.icm .neq) [.int p, .int q] = some (.bool (p != q)) := rfl
 have c3 : validP vs.length ts = true → gcall G none 414 [vl vs, tl ts] 1 = some [.bool (sheetP ts)] := fun h => gcall_on g414 rfl (F414_m h) rfl
 unfold pairP
 generalize validP vs.length ts = b1 at *
 generalize sheetP ts = b2 at *
 generalize inr vs.length p = b3 at *
 generalize inr vs.length q = b4 at *
 generalize (p != q) = b5 at *
 cases b1
 ·clear c3
  cases b2 <;> cases b3 <;> cases b4 <;> cases b5 <;>
   repeat' first
    | ((with_reducible apply st_some); exact c0)
    | ((with_reducible apply st_skip); exact rfl)
    | ((with_reducible apply st_f); exact rfl; exact rfl)
    | ((with_reducible apply st_some); exact rfl)
    | exact rfl
 ·have c3 := c3 rfl
  cases b2 <;> cases b3 <;> cases b4 <;> cases b5 <;>
   repeat' first
    | ((with_reducible apply st_some); exact c0)
    | ((with_reducible apply st_some); exact c1)
    | ((with_reducible apply st_some); exact c2)
    | ((with_reducible apply st_some); exact c3)
    | ((with_reducible apply st_some); exact hn)
    | ((with_reducible apply st_skip); exact rfl)
    | ((with_reducible apply st_t); exact rfl; exact rfl)
    | ((with_reducible apply st_f); exact rfl; exact rfl)
    | ((with_reducible apply st_some); exact rfl)
    | exact rfl
end Vs
