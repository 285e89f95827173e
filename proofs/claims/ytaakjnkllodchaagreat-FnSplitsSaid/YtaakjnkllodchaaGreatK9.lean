/-
  How thick triangles are: ThicknessOf, ThinTriangles.
-/
import Derived.Test.YtaakjnkllodchaaGreatK8
set_option maxHeartbeats 4000000
namespace Vs
open Go
def crossV (a b : V3) : V3 :=
 ⟨fsub .f32 (fmul .f32 a.y b.z) (fmul .f32 a.z b.y), fsub .f32 (fmul .f32 a.z b.x) (fmul .f32 a.x b.z), fsub .f32 (fmul .f32 a.x b.y) (fmul .f32 a.y b.x)⟩
def normT (a b c : V3) : V3 := crossV (lessV b a) (lessV c a)
def longV (v : V3) : Nat := longP v.x v.y v.z
def plc (vs : List V3) (p : Int) : V3 := vs.getD p.toNat ⟨0, 0, 0⟩
def corner (vs : List V3) : List Int → Option (V3 × V3 × V3)
 | [p, q, r] => if inr vs.length p && inr vs.length q && inr vs.length r then some (plc vs p, plc vs q, plc vs r) else none
 | _ => none
theorem corner_inv {vs : List V3} {t : List Int} {a b c : V3} (h : corner vs t = some (a, b, c)) : ∃ p q r, t = [p, q, r] ∧ inr vs.length p = true ∧ inr vs.length q = true ∧ inr vs.length r = true ∧ a = plc vs p ∧ b = plc vs q ∧ c = plc vs r := by
 unfold corner at h
 split at h
 ·rename_i p q r
  split at h
  ·rename_i hc
   simp only [Bool.and_eq_true] at hc;simp only [Option.some.injEq, Prod.mk.injEq] at h;exact ⟨p, q, r, rfl, hc.1.1, hc.1.2, hc.2, h.1.symm, h.2.1.symm, h.2.2.symm⟩
  ·cases h
 ·cases h
theorem corner_ok {vs : List V3} {ts : List (List Int)} {i : Nat} (h : validP vs.length ts = true) (hi : i < ts.length) : ∃ a b c, corner vs ts[i] = some (a, b, c) := by
 unfold validP at h
 simp only [Bool.and_eq_true] at h
 have ht := List.all_eq_true.1 h.2 _ (List.getElem_mem hi)
 generalize ts[i] = t at ht
 unfold triP at ht
 split at ht
 ·rename_i p q r
  simp only [Bool.and_eq_true, List.all_cons, List.all_nil, Bool.and_true] at ht;obtain ⟨_, h1, h2, h3⟩ := ht;refine ⟨plc vs p, plc vs q, plc vs r, ?_⟩;simp only [corner];rw [if_pos (by simp [h1, h2, h3])]
 ·cases ht
theorem idx_plc {vs : List V3} {p : Int} (h : inr vs.length p = true) : gev none .idx [vl vs, .int p] = some (vec (plc vs p)) := by
 unfold inr at h
 simp only [Bool.and_eq_true, decide_eq_true_eq] at h
 have e : p = (p.toNat : Int) := by omega
 have hl : p.toNat < vs.length := by omega
 have := idx_vl hl
 rw [← e] at this
 rw [this]
 unfold plc
 rw [getD_lt hl]
def F158 : List D → Option (List D)
 | [.flt a, .flt b, .flt c, .flt x, .flt y, .flt z] => some [.flt (crossV ⟨a, b, c⟩ ⟨x, y, z⟩).x, .flt (crossV ⟨a, b, c⟩ ⟨x, y, z⟩).y, .flt (crossV ⟨a, b, c⟩ ⟨x, y, z⟩).z]
 | _ => none
def nds (v : V3) : List D := [.flt v.x, .flt v.y, .flt v.z]
noncomputable def F160 : List D → Option (List D)
 | [a, _, c] => (dV a).bind fun vs => (dI c).bind fun t => (corner vs t).map fun p => nds (normT p.1 p.2.1 p.2.2)
 | _ => none
def T158 : T :=
(oo (.far .mul .f32) [1, 5] <|
oo (.far .mul .f32) [2, 4] <|
oo (.far .sub .f32) [6, 7] <|
oo (.far .mul .f32) [2, 3] <|
oo (.far .mul .f32) [0, 5] <|
oo (.far .sub .f32) [9, 10] <|
oo (.far .mul .f32) [0, 4] <|
oo (.far .mul .f32) [1, 3] <|
oo (.far .sub .f32) [12, 13] <|
.out 0 [8, 11, 14])
def S158 (_G : Told) (_fuel : Nat) (x0 x1 x2 x3 x4 x5 : D) : Option (Nat × List D) :=
 (gev none (.far .mul .f32) [x1, x5]).bind fun x6 =>
 (gev none (.far .mul .f32) [x2, x4]).bind fun x7 =>
 (gev none (.far .sub .f32) [x6, x7]).bind fun x8 =>
 (gev none (.far .mul .f32) [x2, x3]).bind fun x9 =>
 (gev none (.far .mul .f32) [x0, x5]).bind fun x10 =>
 (gev none (.far .sub .f32) [x9, x10]).bind fun x11 =>
 (gev none (.far .mul .f32) [x0, x4]).bind fun x12 =>
 (gev none (.far .mul .f32) [x1, x3]).bind fun x13 =>
 (gev none (.far .sub .f32) [x12, x13]).bind fun x14 =>
 some (0, [x8, x11, x14])
theorem eq158 {G fuel} (x0 x1 x2 x3 x4 x5) : run G fuel T158 [x0, x1, x2, x3, x4, x5] = S158 G fuel x0 x1 x2 x3 x4 x5 := by rw [run_eq]; kernel_rfl
def T160 : T :=
(oo .idx [2, kI 0] <|
oo .idx [0, 3] <|
oo (.proj 0) [4] <|
oo (.proj 1) [4] <|
oo (.proj 2) [4] <|
oo .idx [2, kI 1] <|
oo .idx [0, 8] <|
oo (.proj 0) [9] <|
oo (.proj 1) [9] <|
oo (.proj 2) [9] <|
cc 13 [10, 11, 12, 5, 6, 7] 3 <|
oo .idx [2, kI 2] <|
oo .idx [0, 16] <|
oo (.proj 0) [17] <|
oo (.proj 1) [17] <|
oo (.proj 2) [17] <|
cc 13 [18, 19, 20, 5, 6, 7] 3 <|
cc 158 [13, 14, 15, 21, 22, 23] 3 <|
.out 0 [24, 25, 26])
def S160 (G : Told) (_fuel : Nat) (x0 _x1 x2 : D) : Option (Nat × List D) :=
 (gev none .idx [x2, .int 0]).bind fun x3 =>
 (gev none .idx [x0, x3]).bind fun x4 =>
 (gev none (.proj 0) [x4]).bind fun x5 =>
 (gev none (.proj 1) [x4]).bind fun x6 =>
 (gev none (.proj 2) [x4]).bind fun x7 =>
 (gev none .idx [x2, .int 1]).bind fun x8 =>
 (gev none .idx [x0, x8]).bind fun x9 =>
 (gev none (.proj 0) [x9]).bind fun x10 =>
 (gev none (.proj 1) [x9]).bind fun x11 =>
 (gev none (.proj 2) [x9]).bind fun x12 =>
 (gcall G none 13 [x10, x11, x12, x5, x6, x7] 3).bind fun e13 =>
 (gev none .idx [x2, .int 2]).bind fun x16 =>
 (gev none .idx [x0, x16]).bind fun x17 =>
 (gev none (.proj 0) [x17]).bind fun x18 =>
 (gev none (.proj 1) [x17]).bind fun x19 =>
 (gev none (.proj 2) [x17]).bind fun x20 =>
 (gcall G none 13 [x18, x19, x20, x5, x6, x7] 3).bind fun e21 =>
 (gcall G none 158 [e13.getD 0 .undef, e13.getD 1 .undef, e13.getD 2 .undef, e21.getD 0 .undef, e21.getD 1 .undef, e21.getD 2 .undef] 3).bind fun e24 =>
 some (0, [e24.getD 0 .undef, e24.getD 1 .undef, e24.getD 2 .undef])
theorem eq160 {G fuel} (x0 x1 x2) : run G fuel T160 [x0, x1, x2] = S160 G fuel x0 x1 x2 := by rw [run_eq]; kernel_rfl
attribute [local irreducible] tif tjoin IntKind.wrap feq fadd fmul fsub fdiv fgt i2f wide vl il tl totL szM inr triP validP innerP longP rootP flt

theorem run158 {G : Told} : Runs G F158 T158 := by
 intro ds rs h
 unfold F158 at h
 split at h <;> simp only [Option.some.injEq, reduceCtorEq] at h
 subst h
 refine ⟨0, ?_⟩
 rw [eq158]
 unfold S158
 repeat' first
  | with_reducible refine st_ift ?_
  | with_reducible refine st_iff ?_
  | ((with_reducible apply st_callt); assumption; exact rfl; exact rfl; assumption)
  | ((with_reducible apply st_callf); assumption; exact rfl; exact rfl; assumption)
  | ((with_reducible apply st_call); assumption; exact rfl; exact rfl; exact rfl)
  | ((with_reducible apply st_wide); exact rfl; exact rfl)
  | ((with_reducible apply st_skip); exact rfl)
  | ((with_reducible apply st_t); exact rfl; exact rfl)
  | ((with_reducible apply st_f); exact rfl; exact rfl)
  | ((with_reducible apply st_t); exact rfl; assumption)
  | ((with_reducible apply st_f); exact rfl; assumption)
  | ((with_reducible apply st_some); exact rfl)
  | exact rfl
theorem run160 {G : Told} (g13 : G 13 = F13) (g158 : G 158 = F158) : Runs G F160 T160 := by
 intro ds rs h
 unfold F160 at h
 split at h
 case h_2 => cases h
 rename_i a b c
 obtain ⟨vs, ha, h⟩ := Option.bind_eq_some_iff.1 h
 obtain ⟨t, hb, h⟩ := Option.bind_eq_some_iff.1 h
 rw [dV_inv ha, dI_inv hb]
 obtain ⟨⟨a', b', c'⟩, hcn, h⟩ := Option.map_eq_some_iff.1 h
 obtain ⟨p, q, r, rfl, hp, hq, hr, rfl, rfl, rfl⟩ := corner_inv hcn
 subst h
 refine ⟨0, ?_⟩
 rw [eq160]
 unfold S160
 clear hcn
 have x0 : gev none .idx [il [p, q, r], .int 0] = some (.int p) := idx_il (l := [p, q, r]) (i := 0) (by simp)
 have x1 : gev none .idx [il [p, q, r], .int 1] = some (.int q) := idx_il (l := [p, q, r]) (i := 1) (by simp)
 have x2 : gev none .idx [il [p, q, r], .int 2] = some (.int r) := idx_il (l := [p, q, r]) (i := 2) (by simp)
 have y0 := idx_plc hp
 have y1 := idx_plc hq
 have y2 := idx_plc hr
 generalize plc vs p = a at *
 generalize plc vs q = b at *
 generalize plc vs r = c at *
 have l1 : F13 [.flt b.x, .flt b.y, .flt b.z, .flt a.x, .flt a.y, .flt a.z] = some [.flt (lessV b a).x, .flt (lessV b a).y, .flt (lessV b a).z] := rfl
 have l2 : F13 [.flt c.x, .flt c.y, .flt c.z, .flt a.x, .flt a.y, .flt a.z] = some [.flt (lessV c a).x, .flt (lessV c a).y, .flt (lessV c a).z] := rfl
 have lx : F158 [.flt (lessV b a).x, .flt (lessV b a).y, .flt (lessV b a).z, .flt (lessV c a).x, .flt (lessV c a).y, .flt (lessV c a).z] = some [.flt (normT a b c).x, .flt (normT a b c).y, .flt (normT a b c).z] := rfl
 unfold nds
 generalize normT a b c = n at *
 generalize lessV b a = u at *
 generalize lessV c a = w at *
 repeat' first
  | with_reducible refine st_ift ?_
  | with_reducible refine st_iff ?_
  | ((with_reducible apply st_call); exact g13; exact rfl; exact l1; exact rfl)
  | ((with_reducible apply st_call); exact g13; exact rfl; exact l2; exact rfl)
  | ((with_reducible apply st_call); exact g158; exact rfl; exact lx; exact rfl)
  | ((with_reducible apply st_some); exact x0)
  | ((with_reducible apply st_some); exact x1)
  | ((with_reducible apply st_some); exact x2)
  | ((with_reducible apply st_some); exact y0)
  | ((with_reducible apply st_some); exact y1)
  | ((with_reducible apply st_some); exact y2)
  | ((with_reducible apply st_callt); assumption; exact rfl; exact rfl; assumption)
  | ((with_reducible apply st_callf); assumption; exact rfl; exact rfl; assumption)
  | ((with_reducible apply st_call); assumption; exact rfl; exact rfl; exact rfl)
  | ((with_reducible apply st_wide); exact rfl; exact rfl)
  | ((with_reducible apply st_skip); exact rfl)
  | ((with_reducible apply st_t); exact rfl; exact rfl)
  | ((with_reducible apply st_f); exact rfl; exact rfl)
  | ((with_reducible apply st_t); exact rfl; assumption)
  | ((with_reducible apply st_f); exact rfl; assumption)
  | ((with_reducible apply st_some); exact rfl)
  | exact rfl
end Vs
