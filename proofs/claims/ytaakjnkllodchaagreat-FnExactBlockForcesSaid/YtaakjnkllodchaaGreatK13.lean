/-
  Marks in bodies; the law of ColoursOf.
-/
import Derived.Test.YtaakjnkllodchaaGreatK12
set_option maxHeartbeats 4000000
namespace Vs
open Go
def marksS (m : Int) (n : Nat) : List Sp := (List.range n).map fun (i : Nat) => ⟨m + 4 * (i : Int), m + 4 * (i : Int) + 1, i2f .f32 (m + 4 * (i : Int) + 2), i2f .f32 (m + 4 * (i : Int) + 3)⟩
theorem marksS_length (m : Int) (n : Nat) : (marksS m n).length = n := by simp [marksS]
theorem marksS_get {m : Int} {n i : Nat} (h : i < (marksS m n).length) : (marksS m n)[i] = ⟨m + 4 * (i : Int), m + 4 * (i : Int) + 1, i2f .f32 (m + 4 * (i : Int) + 2), i2f .f32 (m + 4 * (i : Int) + 3)⟩ := by simp [marksS]
def marksW (m : Int) (n : Nat) : List Nat := (List.range n).map fun (i : Nat) => i2f .f32 (m + (i : Int))
theorem marksW_length (m : Int) (n : Nat) : (marksW m n).length = n := by simp [marksW]
theorem marksW_get {m : Int} {n i : Nat} (h : i < (marksW m n).length) : (marksW m n)[i] = i2f .f32 (m + (i : Int)) := by simp [marksW]
noncomputable def F191 : List D → Option (List D)
 | [c, .int m] => (dS c).bind fun ss => if ss.length ≤ 1048576 ∧ 0 ≤ m ∧ m ≤ 1099511627776 then some [.int (m + 4 * ss.length), sl (marksS m ss.length)] else none
 | _ => none
noncomputable def F192 : List D → Option (List D)
 | [c, .int m] => (dW c).bind fun ws => if ws.length ≤ 1048576 ∧ 0 ≤ m ∧ m ≤ 1099511627776 then some [.int (m + ws.length), fl (marksW m ws.length)] else none
 | _ => none
def mkB (B : Bd) : Int := 1 + 3 * B.vs.length + totL B.ts + 4 * B.ss.length + B.ws.length
open Classical in
noncomputable def F193 (ds : List D) : Option (List D) := (dB ds).bind fun p => if p.2 = [.int 1] ∧ szB p.1 ≤ 1048576 then
 some [.int (mkB p.1), vl (marksV 1 p.1.vs.length), marksT (1 + 3 * p.1.vs.length) p.1.ts, sl (marksS (1 + 3 * p.1.vs.length + totL p.1.ts) p.1.ss.length), fl (marksW (1 + 3 * p.1.vs.length + totL p.1.ts + 4 * p.1.ss.length) p.1.ws.length)] else none
theorem F193_m {B : Bd} (h : szB B ≤ 1048576) : ∃ a b c d, F193 (bd B ++ [.int 1]) = some [.int (mkB B), a, b, c, d] := by
 have e : F193 (bd B ++ [.int 1]) = some [.int (mkB B), vl (marksV 1 B.vs.length), marksT (1 + 3 * B.vs.length) B.ts, sl (marksS (1 + 3 * B.vs.length + totL B.ts) B.ss.length), fl (marksW (1 + 3 * B.vs.length + totL B.ts + 4 * B.ss.length) B.ws.length)] := by simp only [F193, dB_bd, Option.bind_some];exact if_pos ⟨trivial, h⟩
 exact ⟨_, _, _, _, e⟩
def T191 : T :=
(.join 6
 (.loop [0, 1, kI 0]
  (oo .len [2] <|
  oo (.icm .lss) [4, 5] <|
  .ite 6
   (oo .idx [2, 4] <|
   oo .idx [2, 4] <|
   oo (.proj 0) [8] <|
   oo (.proj 1) [8] <|
   oo (.proj 2) [8] <|
   oo (.proj 3) [8] <|
   oo .mkagg [3, 10, 11, 12] <|
   oo .set [2, 4, 13] <|
   oo (.iar .add .i64) [3, kI 1] <|
   oo .idx [14, 4] <|
   oo .idx [14, 4] <|
   oo (.proj 0) [17] <|
   oo (.proj 1) [17] <|
   oo (.proj 2) [17] <|
   oo (.proj 3) [17] <|
   oo .mkagg [18, 15, 20, 21] <|
   oo .set [14, 4, 22] <|
   oo (.iar .add .i64) [15, kI 1] <|
   oo (.i2f .f32) [24] <|
   oo .idx [23, 4] <|
   oo .idx [23, 4] <|
   oo (.proj 0) [27] <|
   oo (.proj 1) [27] <|
   oo (.proj 2) [27] <|
   oo (.proj 3) [27] <|
   oo .mkagg [28, 29, 25, 31] <|
   oo .set [23, 4, 32] <|
   oo (.iar .add .i64) [24, kI 1] <|
   oo (.i2f .f32) [34] <|
   oo .idx [33, 4] <|
   oo .idx [33, 4] <|
   oo (.proj 0) [37] <|
   oo (.proj 1) [37] <|
   oo (.proj 2) [37] <|
   oo (.proj 3) [37] <|
   oo .mkagg [38, 39, 40, 35] <|
   oo .set [33, 4, 42] <|
   oo (.iar .add .i64) [34, kI 1] <|
   oo (.iar .add .i64) [4, kI 1] <|
   .out 0 [43, 44, 45])
   (.out 1 [2, 3, 4, 4, 5, 6])))
(.out 0 [3, 2]))
def S191L0 (_G : Told) : List D → Option (Nat × List D) := fun e2 =>
   (gev none .len [e2.getD 0 .undef]).bind fun x5 =>
   (gev none (.icm .lss) [e2.getD 2 .undef, x5]).bind fun x6 =>
   tif x6 (
    (gev none .idx [e2.getD 0 .undef, e2.getD 2 .undef]).bind fun _x7 =>
    (gev none .idx [e2.getD 0 .undef, e2.getD 2 .undef]).bind fun x8 =>
    (gev none (.proj 0) [x8]).bind fun _x9 =>
    (gev none (.proj 1) [x8]).bind fun x10 =>
    (gev none (.proj 2) [x8]).bind fun x11 =>
    (gev none (.proj 3) [x8]).bind fun x12 =>
    (gev none .mkagg [e2.getD 1 .undef, x10, x11, x12]).bind fun x13 =>
    (gev none .set [e2.getD 0 .undef, e2.getD 2 .undef, x13]).bind fun x14 =>
    (gev none (.iar .add .i64) [e2.getD 1 .undef, .int 1]).bind fun x15 =>
    (gev none .idx [x14, e2.getD 2 .undef]).bind fun _x16 =>
    (gev none .idx [x14, e2.getD 2 .undef]).bind fun x17 =>
    (gev none (.proj 0) [x17]).bind fun x18 =>
    (gev none (.proj 1) [x17]).bind fun _x19 =>
    (gev none (.proj 2) [x17]).bind fun x20 =>
    (gev none (.proj 3) [x17]).bind fun x21 =>
    (gev none .mkagg [x18, x15, x20, x21]).bind fun x22 =>
    (gev none .set [x14, e2.getD 2 .undef, x22]).bind fun x23 =>
    (gev none (.iar .add .i64) [x15, .int 1]).bind fun x24 =>
    (gev none (.i2f .f32) [x24]).bind fun x25 =>
    (gev none .idx [x23, e2.getD 2 .undef]).bind fun _x26 =>
    (gev none .idx [x23, e2.getD 2 .undef]).bind fun x27 =>
    (gev none (.proj 0) [x27]).bind fun x28 =>
    (gev none (.proj 1) [x27]).bind fun x29 =>
    (gev none (.proj 2) [x27]).bind fun _x30 =>
    (gev none (.proj 3) [x27]).bind fun x31 =>
    (gev none .mkagg [x28, x29, x25, x31]).bind fun x32 =>
    (gev none .set [x23, e2.getD 2 .undef, x32]).bind fun x33 =>
    (gev none (.iar .add .i64) [x24, .int 1]).bind fun x34 =>
    (gev none (.i2f .f32) [x34]).bind fun x35 =>
    (gev none .idx [x33, e2.getD 2 .undef]).bind fun _x36 =>
    (gev none .idx [x33, e2.getD 2 .undef]).bind fun x37 =>
    (gev none (.proj 0) [x37]).bind fun x38 =>
    (gev none (.proj 1) [x37]).bind fun x39 =>
    (gev none (.proj 2) [x37]).bind fun x40 =>
    (gev none (.proj 3) [x37]).bind fun _x41 =>
    (gev none .mkagg [x38, x39, x40, x35]).bind fun x42 =>
    (gev none .set [x33, e2.getD 2 .undef, x42]).bind fun x43 =>
    (gev none (.iar .add .i64) [x34, .int 1]).bind fun x44 =>
    (gev none (.iar .add .i64) [e2.getD 2 .undef, .int 1]).bind fun x45 =>
    some (0, [x43, x44, x45])) (
    some (1, [e2.getD 0 .undef, e2.getD 1 .undef, e2.getD 2 .undef, e2.getD 2 .undef, x5, x6]))
def S191 (G : Told) (fuel : Nat) (x0 x1 : D) : Option (Nat × List D) :=
 tjoin 6 (
  iter (tbody 3 (S191L0 G )) fuel [x0, x1, .int 0]) fun e2 =>
 some (0, [e2.getD 1 .undef, e2.getD 0 .undef])
theorem eq191 {G fuel} (x0 x1) : run G fuel T191 [x0, x1] = S191 G fuel x0 x1 := by rw [run_eq]; kernel_rfl
def T192 : T :=
(.join 6
 (.loop [0, 1, kI 0]
  (oo .len [2] <|
  oo (.icm .lss) [4, 5] <|
  .ite 6
   (oo (.i2f .f32) [3] <|
   oo .idx [2, 4] <|
   oo .set [2, 4, 7] <|
   oo (.iar .add .i64) [3, kI 1] <|
   oo (.iar .add .i64) [4, kI 1] <|
   .out 0 [9, 10, 11])
   (.out 1 [2, 3, 4, 4, 5, 6])))
(.out 0 [3, 2]))
def S192L0 (_G : Told) : List D → Option (Nat × List D) := fun e2 =>
   (gev none .len [e2.getD 0 .undef]).bind fun x5 =>
   (gev none (.icm .lss) [e2.getD 2 .undef, x5]).bind fun x6 =>
   tif x6 (
    (gev none (.i2f .f32) [e2.getD 1 .undef]).bind fun x7 =>
    (gev none .idx [e2.getD 0 .undef, e2.getD 2 .undef]).bind fun _x8 =>
    (gev none .set [e2.getD 0 .undef, e2.getD 2 .undef, x7]).bind fun x9 =>
    (gev none (.iar .add .i64) [e2.getD 1 .undef, .int 1]).bind fun x10 =>
    (gev none (.iar .add .i64) [e2.getD 2 .undef, .int 1]).bind fun x11 =>
    some (0, [x9, x10, x11])) (
    some (1, [e2.getD 0 .undef, e2.getD 1 .undef, e2.getD 2 .undef, e2.getD 2 .undef, x5, x6]))
def S192 (G : Told) (fuel : Nat) (x0 x1 : D) : Option (Nat × List D) :=
 tjoin 6 (
  iter (tbody 3 (S192L0 G )) fuel [x0, x1, .int 0]) fun e2 =>
 some (0, [e2.getD 1 .undef, e2.getD 0 .undef])
theorem eq192 {G fuel} (x0 x1) : run G fuel T192 [x0, x1] = S192 G fuel x0 x1 := by rw [run_eq]; kernel_rfl
def T193 : T :=
(cc 147 [0, 1, 9] 3 <|
cc 191 [2, 10] 2 <|
cc 192 [5, 13] 2 <|
.out 0 [15, 11, 12, 14, 16])
def S193 (G : Told) (_fuel : Nat) (x0 x1 x2 _x3 _x4 x5 _x6 _x7 _x8 x9 : D) : Option (Nat × List D) :=
 (gcall G none 147 [x0, x1, x9] 3).bind fun e10 =>
 (gcall G none 191 [x2, e10.getD 0 .undef] 2).bind fun e13 =>
 (gcall G none 192 [x5, e13.getD 0 .undef] 2).bind fun e15 =>
 some (0, [e15.getD 0 .undef, e10.getD 1 .undef, e10.getD 2 .undef, e13.getD 1 .undef, e15.getD 1 .undef])
theorem eq193 {G fuel} (x0 x1 x2 x3 x4 x5 x6 x7 x8 x9) : run G fuel T193 [x0, x1, x2, x3, x4, x5, x6, x7, x8, x9] = S193 G fuel x0 x1 x2 x3 x4 x5 x6 x7 x8 x9 := by rw [run_eq]; kernel_rfl
attribute [local irreducible] tif tjoin IntKind.wrap feq fadd fmul fsub fdiv fgt fge flt fneg i2f sameP wide eqV vl il tl sl fl totL validB marksS marksW mkB szM szP marksV marksT inr triP validP innerP longP rootP

theorem run191 {G : Told} : Runs G F191 T191 := by
 intro ds rs h
 unfold F191 at h
 split at h
 case h_2 => cases h
 rename_i c m
 obtain ⟨l, ha, h⟩ := Option.bind_eq_some_iff.1 h
 rw [dS_inv ha]
 split at h
 case isFalse => cases h
 rename_i hc
 obtain ⟨hc, hm0, hm1⟩ := hc
 simp only [Option.some.injEq] at h
 subst h
 refine ⟨l.length + 1, ?_⟩
 rw [eq191]
 unfold S191
 have hlm : (marksS m l.length).length = l.length := marksS_length _ _
 have hloop : iter (tbody 3 (S191L0 G)) (l.length + 1) [sl l, .int m, .int 0] = some (0, [sl (marksS m l.length), .int (m + 4 * (l.length : Int)), .int (l.length : Int), .int (l.length : Int), .int (l.length : Int), .bool false]) := by
  have h1 := iter_upto (body := tbody 3 (S191L0 G)) (n := l.length) (l := 0) (ds := [sl (marksS m l.length), .int (m + 4 * (l.length : Int)), .int (l.length : Int), .int (l.length : Int), .int (l.length : Int), .bool false])
   (fun i => [sl ((marksS m l.length).take i ++ l.drop i), .int (m + 4 * (i : Int)), .int (i : Int)]) ?_ ?_
  ·simpa using h1
  ·intro i hi
   refine tb rfl ?_;have hml := mix_len (a := marksS m l.length) (b := l) (i := i) hlm (by omega)
   have hms := mix_set (a := marksS m l.length) (b := l) (i := i) hlm (by omega)
   rw [marksS_get] at hms;have hn := len_sl (l := (marksS m l.length).take i ++ l.drop i);rw [hml] at hn;have h0 : decide ((i : Int) < (l.length : Int)) = true := by simpa using hi
   generalize (marksS m l.length).take i ++ l.drop i = v at hml hms hn;have hx := idx_sl (l := v) (i := i) (by omega)
   have ha := add1n (i := i) (by omega)
   have ha1 := add1 (i := m + 4 * (i : Int)) (by omega) (by omega)
   have ha2 := add1 (i := m + 4 * (i : Int) + 1) (by omega) (by omega)
   rw [show m + 4 * (i : Int) + 1 + 1 = m + 4 * (i : Int) + 2 from by omega] at ha2
   have ha3 := add1 (i := m + 4 * (i : Int) + 2) (by omega) (by omega)
   rw [show m + 4 * (i : Int) + 2 + 1 = m + 4 * (i : Int) + 3 from by omega] at ha3
   have ha4 := add1 (i := m + 4 * (i : Int) + 3) (by omega) (by omega)
   rw [show m + 4 * (i : Int) + 3 + 1 = m + 4 * ((i + 1 : Nat) : Int) from by omega] at ha4
   have hs := set_sl (l := v) (i := i) (v := ⟨m + 4 * (i : Int), v[i].b, v[i].l, v[i].k⟩) (by omega)
   have hx2 := idx_sl (l := v.set i ⟨m + 4 * (i : Int), v[i].b, v[i].l, v[i].k⟩) (i := i) (by simp; omega)
   rw [List.getElem_set_self] at hx2;have hs2 := set_sl (l := v.set i ⟨m + 4 * (i : Int), v[i].b, v[i].l, v[i].k⟩) (i := i) (v := ⟨m + 4 * (i : Int), m + 4 * (i : Int) + 1, v[i].l, v[i].k⟩) (by simp; omega)
   rw [List.set_set] at hs2;have hx3 := idx_sl (l := v.set i ⟨m + 4 * (i : Int), m + 4 * (i : Int) + 1, v[i].l, v[i].k⟩) (i := i) (by simp; omega)
   rw [List.getElem_set_self] at hx3;have hs3 := set_sl (l := v.set i ⟨m + 4 * (i : Int), m + 4 * (i : Int) + 1, v[i].l, v[i].k⟩) (i := i) (v := ⟨m + 4 * (i : Int), m + 4 * (i : Int) + 1, i2f .f32 (m + 4 * (i : Int) + 2), v[i].k⟩) (by simp; omega)
   rw [List.set_set] at hs3;have hx4 := idx_sl (l := v.set i ⟨m + 4 * (i : Int), m + 4 * (i : Int) + 1, i2f .f32 (m + 4 * (i : Int) + 2), v[i].k⟩) (i := i) (by simp; omega)
   rw [List.getElem_set_self] at hx4;have hs4 := set_sl (l := v.set i ⟨m + 4 * (i : Int), m + 4 * (i : Int) + 1, i2f .f32 (m + 4 * (i : Int) + 2), v[i].k⟩) (i := i) (v := ⟨m + 4 * (i : Int), m + 4 * (i : Int) + 1, i2f .f32 (m + 4 * (i : Int) + 2), i2f .f32 (m + 4 * (i : Int) + 3)⟩) (by simp; omega)
   rw [List.set_set, hms] at hs4;unfold S191L0
   repeat' first
    | with_reducible refine st_ift ?_
    | with_reducible refine st_iff ?_
    | ((with_reducible apply st_ift2); exact rfl)
    | ((with_reducible apply st_iff2); exact rfl)
    | ((with_reducible apply st_ift2); exact rfl)
    | ((with_reducible apply st_iff2); exact rfl)
    | ((with_reducible apply st_some); exact hx)
    | ((with_reducible apply st_some); exact hx2)
    | ((with_reducible apply st_some); exact hx3)
    | ((with_reducible apply st_some); exact hx4)
    | ((with_reducible apply st_some); exact hs)
    | ((with_reducible apply st_some); exact hs2)
    | ((with_reducible apply st_some); exact hs3)
    | ((with_reducible apply st_some); exact hs4)
    | ((with_reducible apply st_some); exact ha)
    | ((with_reducible apply st_some); exact ha1)
    | ((with_reducible apply st_some); exact ha2)
    | ((with_reducible apply st_some); exact ha3)
    | ((with_reducible apply st_some); exact ha4)
    | ((with_reducible apply st_some); exact hn)
    | ((with_reducible apply st_callt); assumption; exact rfl; exact rfl; assumption)
    | ((with_reducible apply st_callf); assumption; exact rfl; exact rfl; assumption)
    | ((with_reducible apply st_call); assumption; exact rfl; exact rfl; exact rfl)
    | ((with_reducible apply st_wide); exact rfl; exact rfl)
    | ((with_reducible apply st_skip); exact rfl)
    | ((with_reducible apply st_t); exact rfl; exact rfl)
    | ((with_reducible apply st_f); exact rfl; exact rfl)
    | ((with_reducible apply st_t); exact rfl; assumption)
    | ((with_reducible apply st_f); exact rfl; assumption)
    | ((with_reducible apply st_some); exact rfl)
    | exact rfl
  ·refine tb rfl ?_
   have h0 : decide ((l.length : Int) < (l.length : Int)) = false := by simp
   have e : (marksS m l.length).take l.length ++ l.drop l.length = marksS m l.length := by simp [List.take_of_length_le, hlm]
   rw [e];have hn := len_sl (l := marksS m l.length);rw [hlm] at hn;unfold S191L0
   repeat' first
    | with_reducible refine st_ift ?_
    | with_reducible refine st_iff ?_
    | ((with_reducible apply st_ift2); exact rfl)
    | ((with_reducible apply st_iff2); exact rfl)
    | ((with_reducible apply st_ift2); exact rfl)
    | ((with_reducible apply st_iff2); exact rfl)
    | ((with_reducible apply st_some); exact hn)
    | ((with_reducible apply st_callt); assumption; exact rfl; exact rfl; assumption)
    | ((with_reducible apply st_callf); assumption; exact rfl; exact rfl; assumption)
    | ((with_reducible apply st_call); assumption; exact rfl; exact rfl; exact rfl)
    | ((with_reducible apply st_wide); exact rfl; exact rfl)
    | ((with_reducible apply st_skip); exact rfl)
    | ((with_reducible apply st_t); exact rfl; exact rfl)
    | ((with_reducible apply st_f); exact rfl; exact rfl)
    | ((with_reducible apply st_t); exact rfl; assumption)
    | ((with_reducible apply st_f); exact rfl; assumption)
    | ((with_reducible apply st_some); exact rfl)
    | exact rfl
 refine st_join hloop rfl ?_
 rfl
theorem run192 {G : Told} : Runs G F192 T192 := by
 intro ds rs h
 unfold F192 at h
 split at h
 case h_2 => cases h
 rename_i c m
 obtain ⟨l, ha, h⟩ := Option.bind_eq_some_iff.1 h
 rw [dW_inv ha]
 split at h
 case isFalse => cases h
 rename_i hc
 obtain ⟨hc, hm0, hm1⟩ := hc
 simp only [Option.some.injEq] at h
 subst h
 refine ⟨l.length + 1, ?_⟩
 rw [eq192]
 unfold S192
 have hlm : (marksW m l.length).length = l.length := marksW_length _ _
 have hloop : iter (tbody 3 (S192L0 G)) (l.length + 1) [fl l, .int m, .int 0] = some (0, [fl (marksW m l.length), .int (m + (l.length : Int)), .int (l.length : Int), .int (l.length : Int), .int (l.length : Int), .bool false]) := by
  have h1 := iter_upto (body := tbody 3 (S192L0 G)) (n := l.length) (l := 0) (ds := [fl (marksW m l.length), .int (m + (l.length : Int)), .int (l.length : Int), .int (l.length : Int), .int (l.length : Int), .bool false])
   (fun i => [fl ((marksW m l.length).take i ++ l.drop i), .int (m + (i : Int)), .int (i : Int)]) ?_ ?_
  ·simpa using h1
  ·intro i hi
   refine tb rfl ?_;have hml := mix_len (a := marksW m l.length) (b := l) (i := i) hlm (by omega)
   have hms := mix_set (a := marksW m l.length) (b := l) (i := i) hlm (by omega)
   rw [marksW_get] at hms;have hn := len_fl (l := (marksW m l.length).take i ++ l.drop i);rw [hml] at hn;have h0 : decide ((i : Int) < (l.length : Int)) = true := by simpa using hi
   generalize (marksW m l.length).take i ++ l.drop i = v at hml hms hn;have hx := idx_fl (l := v) (i := i) (by omega)
   have ha := add1n (i := i) (by omega)
   have ha1 := add1 (i := m + (i : Int)) (by omega) (by omega)
   rw [show m + (i : Int) + 1 = m + ((i + 1 : Nat) : Int) from by omega] at ha1
   have hs := set_fl (l := v) (i := i) (v := i2f .f32 (m + (i : Int))) (by omega)
   rw [hms] at hs;unfold S192L0
   repeat' first
    | with_reducible refine st_ift ?_
    | with_reducible refine st_iff ?_
    | ((with_reducible apply st_ift2); exact rfl)
    | ((with_reducible apply st_iff2); exact rfl)
    | ((with_reducible apply st_ift2); exact rfl)
    | ((with_reducible apply st_iff2); exact rfl)
    | ((with_reducible apply st_some); exact hx)
    | ((with_reducible apply st_some); exact hs)
    | ((with_reducible apply st_some); exact ha)
    | ((with_reducible apply st_some); exact ha1)
    | ((with_reducible apply st_some); exact hn)
    | ((with_reducible apply st_callt); assumption; exact rfl; exact rfl; assumption)
    | ((with_reducible apply st_callf); assumption; exact rfl; exact rfl; assumption)
    | ((with_reducible apply st_call); assumption; exact rfl; exact rfl; exact rfl)
    | ((with_reducible apply st_wide); exact rfl; exact rfl)
    | ((with_reducible apply st_skip); exact rfl)
    | ((with_reducible apply st_t); exact rfl; exact rfl)
    | ((with_reducible apply st_f); exact rfl; exact rfl)
    | ((with_reducible apply st_t); exact rfl; assumption)
    | ((with_reducible apply st_f); exact rfl; assumption)
    | ((with_reducible apply st_some); exact rfl)
    | exact rfl
  ·refine tb rfl ?_
   have h0 : decide ((l.length : Int) < (l.length : Int)) = false := by simp
   have e : (marksW m l.length).take l.length ++ l.drop l.length = marksW m l.length := by simp [List.take_of_length_le, hlm]
   rw [e];have hn := len_fl (l := marksW m l.length);rw [hlm] at hn;unfold S192L0
   repeat' first
    | with_reducible refine st_ift ?_
    | with_reducible refine st_iff ?_
    | ((with_reducible apply st_ift2); exact rfl)
    | ((with_reducible apply st_iff2); exact rfl)
    | ((with_reducible apply st_ift2); exact rfl)
    | ((with_reducible apply st_iff2); exact rfl)
    | ((with_reducible apply st_some); exact hn)
    | ((with_reducible apply st_callt); assumption; exact rfl; exact rfl; assumption)
    | ((with_reducible apply st_callf); assumption; exact rfl; exact rfl; assumption)
    | ((with_reducible apply st_call); assumption; exact rfl; exact rfl; exact rfl)
    | ((with_reducible apply st_wide); exact rfl; exact rfl)
    | ((with_reducible apply st_skip); exact rfl)
    | ((with_reducible apply st_t); exact rfl; exact rfl)
    | ((with_reducible apply st_f); exact rfl; exact rfl)
    | ((with_reducible apply st_t); exact rfl; assumption)
    | ((with_reducible apply st_f); exact rfl; assumption)
    | ((with_reducible apply st_some); exact rfl)
    | exact rfl
 refine st_join hloop rfl ?_
 rfl
theorem run193 {G : Told} (g147 : G 147 = F147) (g191 : G 191 = F191) (g192 : G 192 = F192) : Runs G F193 T193 := by
 intro ds rs h
 unfold F193 at h
 obtain ⟨⟨B, r⟩, hb, h⟩ := Option.bind_eq_some_iff.1 h
 rw [dB_inv hb]
 split at h
 case isFalse => cases h
 rename_i hc
 simp only [Option.some.injEq] at h
 subst h
 obtain ⟨hr, hc⟩ := hc
 dsimp only at hr hc
 subst hr
 obtain ⟨vs, ts, ss, fm, bn, ws, x, y, z⟩ := B
 simp only [bd, List.cons_append, List.nil_append]
 have hz : szM vs ts + ss.length + ws.length ≤ 1048576 := hc
 have hz2 : szM vs ts = vs.length + ts.length + totL ts := by unfold szM; rfl
 refine ⟨0, ?_⟩
 rw [eq193]
 unfold S193
 have h1 := F147_m (vs := vs) (ts := ts) (m := 1) (by omega) (by omega) (by omega)
 have h2 : F191 [sl ss, .int (1 + 3 * vs.length + totL ts)] = some [.int (1 + 3 * vs.length + totL ts + 4 * ss.length), sl (marksS (1 + 3 * vs.length + totL ts) ss.length)] := by simp only [F191, dS_sl, Option.bind_some];exact if_pos ⟨by omega, by omega, by omega⟩
 have h3 : F192 [fl ws, .int (1 + 3 * vs.length + totL ts + 4 * ss.length)] = some [.int (1 + 3 * vs.length + totL ts + 4 * ss.length + ws.length), fl (marksW (1 + 3 * vs.length + totL ts + 4 * ss.length) ws.length)] := by simp only [F192, dW_fl, Option.bind_some];exact if_pos ⟨by omega, by omega, by omega⟩
 have e : mkB ⟨vs, ts, ss, fm, bn, ws, x, y, z⟩ = 1 + 3 * vs.length + totL ts + 4 * ss.length + ws.length := by unfold mkB; rfl
 rw [e]
 repeat' first
  | with_reducible refine st_ift ?_
  | with_reducible refine st_iff ?_
  | ((with_reducible apply st_ift2); exact rfl)
  | ((with_reducible apply st_iff2); exact rfl)
  | ((with_reducible apply st_ift2); exact rfl)
  | ((with_reducible apply st_iff2); exact rfl)
  | ((with_reducible apply st_call); exact g147; exact rfl; exact h1; exact rfl)
  | ((with_reducible apply st_call); exact g191; exact rfl; exact h2; exact rfl)
  | ((with_reducible apply st_call); exact g192; exact rfl; exact h3; exact rfl)
  | ((with_reducible apply st_callt); assumption; exact rfl; exact rfl; assumption)
  | ((with_reducible apply st_callf); assumption; exact rfl; exact rfl; assumption)
  | ((with_reducible apply st_call); assumption; exact rfl; exact rfl; exact rfl)
  | ((with_reducible apply st_wide); exact rfl; exact rfl)
  | ((with_reducible apply st_skip); exact rfl)
  | ((with_reducible apply st_t); exact rfl; exact rfl)
  | ((with_reducible apply st_f); exact rfl; exact rfl)
  | ((with_reducible apply st_t); exact rfl; assumption)
  | ((with_reducible apply st_f); exact rfl; assumption)
  | ((with_reducible apply st_some); exact rfl)
  | exact rfl
end Vs
