/-
  Bodies: a mesh, springs, weights and numbers; what laws do with them; which are valid.
-/
import Derived.Test.YtaakjnkllodchaaGreatK9
set_option maxHeartbeats 4000000
namespace Vs
open Go
structure Sp where
 a : Int
 b : Int
 l : Nat
 k : Nat
def spr (s : Sp) : D := .agg [.int s.a, .int s.b, .flt s.l, .flt s.k]
def unspr : D → Sp
 | .agg [.int a, .int b, .flt l, .flt k] => ⟨a, b, l, k⟩
 | _ => ⟨0, 0, 0, 0⟩
def sl (l : List Sp) : D := .lst (l.map spr)
def fl (l : List Nat) : D := .lst (l.map .flt)
def unflt : D → Nat | .flt n => n | _ => 0
theorem unsl (l : List Sp) : (l.map spr).map unspr = l := by
 rw [List.map_map]
 exact List.map_id'' (fun _ => rfl) l
theorem unfl (l : List Nat) : (l.map D.flt).map unflt = l := by
 rw [List.map_map]
 exact List.map_id'' (fun _ => rfl) l
open Classical in
noncomputable def dS : D → Option (List Sp)
 | .lst a => if a = (a.map unspr).map spr then some (a.map unspr) else none
 | _ => none
open Classical in
noncomputable def dW : D → Option (List Nat)
 | .lst a => if a = (a.map unflt).map .flt then some (a.map unflt) else none
 | _ => none
theorem dS_sl (l : List Sp) : dS (sl l) = some l := by
 simp only [dS, sl]
 rw [if_pos (by rw [unsl]), unsl]
theorem dW_fl (l : List Nat) : dW (fl l) = some l := by
 simp only [dW, fl]
 rw [if_pos (by rw [unfl]), unfl]
theorem dS_inv {d : D} {l : List Sp} (h : dS d = some l) : d = sl l := by
 unfold dS at h
 split at h
 ·split at h
  ·rename_i hc
   cases h
   rw [sl, ← hc]
  ·cases h
 ·cases h
theorem dW_inv {d : D} {l : List Nat} (h : dW d = some l) : d = fl l := by
 unfold dW at h
 split at h
 ·split at h
  ·rename_i hc
   cases h
   rw [fl, ← hc]
  ·cases h
 ·cases h
theorem idx_sl {l : List Sp} {i : Nat} (h : i < l.length) : gev none .idx [sl l, .int i] = some (spr l[i]) := by
 have h2 : (i : Int) < ((l.map spr).length : Int) := by simp; omega
 simp only [gev, gok, if_true, Prim.ev, sl]
 rw [if_pos ⟨by omega, h2⟩]
 simp [h]
theorem set_sl {l : List Sp} {i : Nat} {v : Sp} (h : i < l.length) : gev none .set [sl l, .int i, spr v] = some (sl (l.set i v)) := by
 have h2 : (i : Int) < ((l.map spr).length : Int) := by simp; omega
 simp only [gev, gok, if_true, Prim.ev, sl]
 rw [if_pos ⟨by omega, h2⟩]
 simp [List.map_set]
theorem len_sl {l : List Sp} : gev none .len [sl l] = some (.int (l.length : Int)) := by simp [gev, gok, Prim.ev, sl]
theorem idx_fl {l : List Nat} {i : Nat} (h : i < l.length) : gev none .idx [fl l, .int i] = some (.flt l[i]) := by
 have h2 : (i : Int) < ((l.map D.flt).length : Int) := by simp; omega
 simp only [gev, gok, if_true, Prim.ev, fl]
 rw [if_pos ⟨by omega, h2⟩]
 simp [h]
theorem set_fl {l : List Nat} {i : Nat} {v : Nat} (h : i < l.length) : gev none .set [fl l, .int i, .flt v] = some (fl (l.set i v)) := by
 have h2 : (i : Int) < ((l.map D.flt).length : Int) := by simp; omega
 simp only [gev, gok, if_true, Prim.ev, fl]
 rw [if_pos ⟨by omega, h2⟩]
 simp [List.map_set]
theorem len_fl {l : List Nat} : gev none .len [fl l] = some (.int (l.length : Int)) := by simp [gev, gok, Prim.ev, fl]
structure Bd where
 vs : List V3
 ts : List (List Int)
 ss : List Sp
 fm : Nat
 bn : Nat
 ws : List Nat
 x : Nat
 y : Nat
 z : Nat
def bd (B : Bd) : List D := [vl B.vs, tl B.ts, sl B.ss, .flt B.fm, .flt B.bn, fl B.ws, .flt B.x, .flt B.y, .flt B.z]
noncomputable def dB : List D → Option (Bd × List D)
 | a :: b :: c :: .flt fm :: .flt bn :: w :: .flt x :: .flt y :: .flt z :: r =>
  (dV a).bind fun vs => (dT b).bind fun ts => (dS c).bind fun ss => (dW w).bind fun ws => some (⟨vs, ts, ss, fm, bn, ws, x, y, z⟩, r)
 | _ => none
theorem dB_bd (B : Bd) (r : List D) : dB (bd B ++ r) = some (B, r) := by simp only [bd, List.cons_append, List.nil_append, dB, dV_vl, dT_tl, dS_sl, dW_fl, Option.bind_some]
theorem dB_bd0 (B : Bd) : dB (bd B) = some (B, []) := by
 have := dB_bd B []
 rwa [List.append_nil] at this
theorem dB_inv {ds : List D} {B : Bd} {r : List D} (h : dB ds = some (B, r)) : ds = bd B ++ r := by
 unfold dB at h
 split at h
 ·obtain ⟨vs, h1, h⟩ := Option.bind_eq_some_iff.1 h
  obtain ⟨ts, h2, h⟩ := Option.bind_eq_some_iff.1 h;obtain ⟨ss, h3, h⟩ := Option.bind_eq_some_iff.1 h;obtain ⟨ws, h4, h⟩ := Option.bind_eq_some_iff.1 h;simp only [Option.some.injEq, Prod.mk.injEq] at h;obtain ⟨rfl, rfl⟩ := h;rw [dV_inv h1, dT_inv h2, dS_inv h3, dW_inv h4];rfl
 ·cases h
def szB (B : Bd) : Nat := szM B.vs B.ts + B.ss.length + B.ws.length
structure lawB (B : Bd) : Prop where
 m : lawM B.vs B.ts
 s : B.ss.length < 9223372036854775808
 w : B.ws.length < 9223372036854775808
noncomputable def F180 : List D → Option (List D)
 | [c, .int m] => (dS c).bind fun ss => if 0 ≤ m ∧ m ≤ 1048576 ∧ ss.length < 9223372036854775808 then some [.int (szP m ss.length)] else none
 | _ => none
noncomputable def F181 : List D → Option (List D)
 | [c, .int m] => (dW c).bind fun ws => if 0 ≤ m ∧ m ≤ 1048576 ∧ ws.length < 9223372036854775808 then some [.int (szP m ws.length)] else none
 | _ => none
open Classical in
noncomputable def F182 (ds : List D) : Option (List D) := (dB ds).bind fun p => if p.2 = [.int 1048576] ∧ lawB p.1 then some [.int (szP 1048576 (szB p.1))] else none
def F183 : List D → Option (List D)
 | [.int a, .int b, .flt l, .flt k] => some [.int a, .int b, .flt l, .flt k]
 | _ => none
noncomputable def F184 : List D → Option (List D)
 | [c] => (dS c).bind fun ss => if ss.length ≤ 1048576 then some [sl ss] else none
 | _ => none
noncomputable def F185 : List D → Option (List D)
 | [c] => (dW c).bind fun ws => if ws.length ≤ 1048576 then some [fl ws] else none
 | _ => none
open Classical in
noncomputable def F186 (ds : List D) : Option (List D) := (dB ds).bind fun p => if p.2 = [] ∧ szB p.1 ≤ 1048576 then some (bd p.1) else none
def F187 : List D → Option (List D)
 | [.int a, .int b, .flt l, .flt k, .int a2, .int b2, .flt l2, .flt k2] => if a2 = a ∧ b2 = b ∧ l2 = l ∧ k2 = k then some [.bool true] else none
 | _ => none
open Classical in
noncomputable def F188 : List D → Option (List D)
 | [c, d] => (dS c).bind fun ss => if d = c ∧ ss.length ≤ 1048576 then some [.bool true] else none
 | _ => none
open Classical in
noncomputable def F189 : List D → Option (List D)
 | [c, d] => (dW c).bind fun ws => if d = c ∧ ws.length ≤ 1048576 then some [.bool true] else none
 | _ => none
open Classical in
noncomputable def F190 (ds : List D) : Option (List D) := (dB ds).bind fun p => if p.2 = bd p.1 ∧ szB p.1 ≤ 1048576 then some [.bool true] else none
def sprP (n : Int) (s : Sp) : Bool := inr n s.a && inr n s.b && !(s.a == s.b) && fge .f32 s.l 0
def validB (B : Bd) : Bool := validP B.vs.length B.ts && decide (B.ss.length ≤ 200) && decide (B.ws.length = B.vs.length) && B.ss.all (sprP B.vs.length)
def F194 : List D → Option (List D)
 | [.int a, .int b, .flt l, .flt k, .int n] => if 0 ≤ n ∧ n ≤ 1048576 then some [.bool (sprP n ⟨a, b, l, k⟩)] else none
 | _ => none
open Classical in
noncomputable def F195 (ds : List D) : Option (List D) := (dB ds).bind fun p => if p.2 = [] ∧ szB p.1 ≤ 1048576 then some [.bool (validB p.1)] else none
theorem F182_m {B : Bd} (h : lawB B) : F182 (bd B ++ [.int 1048576]) = some [.int (szP 1048576 (szB B))] := by
 simp only [F182, dB_bd, Option.bind_some]
 exact if_pos ⟨rfl, h⟩
theorem F186_m {B : Bd} (h : szB B ≤ 1048576) : F186 (bd B) = some (bd B) := by
 simp only [F186, dB_bd0, Option.bind_some]
 exact if_pos ⟨trivial, h⟩
theorem F190_m {B : Bd} (h : szB B ≤ 1048576) : F190 (bd B ++ bd B) = some [.bool true] := by
 simp only [F190, dB_bd, Option.bind_some]
 exact if_pos ⟨trivial, h⟩
theorem F195_m {B : Bd} (h : szB B ≤ 1048576) : F195 (bd B) = some [.bool (validB B)] := by
 simp only [F195, dB_bd0, Option.bind_some]
 exact if_pos ⟨trivial, h⟩
def T180 : T :=
(oo .len [0] <|
oo (.iar .sub .i64) [1, 2] <|
oo (.icm .lss) [3, kI 0] <|
.ite 4
 (.out 0 [(.c (.int (-1)))])
 (.out 0 [3]))
def S180 (_G : Told) (_fuel : Nat) (x0 x1 : D) : Option (Nat × List D) :=
 (gev none .len [x0]).bind fun x2 =>
 (gev none (.iar .sub .i64) [x1, x2]).bind fun x3 =>
 (gev none (.icm .lss) [x3, .int 0]).bind fun x4 =>
 tif x4 (
  some (0, [(.int (-1))])) (
  some (0, [x3]))
theorem eq180 {G fuel} (x0 x1) : run G fuel T180 [x0, x1] = S180 G fuel x0 x1 := by rw [run_eq]; kernel_rfl
def T181 : T :=
(oo .len [0] <|
oo (.iar .sub .i64) [1, 2] <|
oo (.icm .lss) [3, kI 0] <|
.ite 4
 (.out 0 [(.c (.int (-1)))])
 (.out 0 [3]))
def S181 (_G : Told) (_fuel : Nat) (x0 x1 : D) : Option (Nat × List D) :=
 (gev none .len [x0]).bind fun x2 =>
 (gev none (.iar .sub .i64) [x1, x2]).bind fun x3 =>
 (gev none (.icm .lss) [x3, .int 0]).bind fun x4 =>
 tif x4 (
  some (0, [(.int (-1))])) (
  some (0, [x3]))
theorem eq181 {G fuel} (x0 x1) : run G fuel T181 [x0, x1] = S181 G fuel x0 x1 := by rw [run_eq]; kernel_rfl
def T182 : T :=
(cc 142 [0, 1, 9] 1 <|
oo (.icm .lss) [10, kI 0] <|
.ite 11
 (.out 0 [(.c (.int (-1)))])
 (cc 180 [2, 10] 1 <|
 oo (.icm .lss) [12, kI 0] <|
 .ite 13
  (.out 0 [(.c (.int (-1)))])
  (cc 181 [5, 12] 1 <|
  oo (.icm .lss) [14, kI 0] <|
  .ite 15
   (.out 0 [(.c (.int (-1)))])
   (.out 0 [14]))))
def S182 (G : Told) (_fuel : Nat) (x0 x1 x2 _x3 _x4 x5 _x6 _x7 _x8 x9 : D) : Option (Nat × List D) :=
 (gcall G none 142 [x0, x1, x9] 1).bind fun e10 =>
 (gev none (.icm .lss) [e10.getD 0 .undef, .int 0]).bind fun x11 =>
 tif x11 (
  some (0, [(.int (-1))])) (
  (gcall G none 180 [x2, e10.getD 0 .undef] 1).bind fun e12 =>
  (gev none (.icm .lss) [e12.getD 0 .undef, .int 0]).bind fun x13 =>
  tif x13 (
   some (0, [(.int (-1))])) (
   (gcall G none 181 [x5, e12.getD 0 .undef] 1).bind fun e14 =>
   (gev none (.icm .lss) [e14.getD 0 .undef, .int 0]).bind fun x15 =>
   tif x15 (
    some (0, [(.int (-1))])) (
    some (0, [e14.getD 0 .undef]))))
theorem eq182 {G fuel} (x0 x1 x2 x3 x4 x5 x6 x7 x8 x9) : run G fuel T182 [x0, x1, x2, x3, x4, x5, x6, x7, x8, x9] = S182 G fuel x0 x1 x2 x3 x4 x5 x6 x7 x8 x9 := by rw [run_eq]; kernel_rfl
def T183 : T :=
(.out 0 [0, 1, 2, 3])
def S183 (_G : Told) (_fuel : Nat) (x0 x1 x2 x3 : D) : Option (Nat × List D) :=
 some (0, [x0, x1, x2, x3])
theorem eq183 {G fuel} (x0 x1 x2 x3) : run G fuel T183 [x0, x1, x2, x3] = S183 G fuel x0 x1 x2 x3 := by rw [run_eq]; kernel_rfl
def T184 : T :=
(oo .len [0] <|
oo .rep [(.v 1), (.c (.agg [.int 0, .int 0, .flt 0, .flt 0]))] <|
.join 5
 (.loop [2, kI 0]
  (oo .len [0] <|
  oo (.icm .lss) [4, 5] <|
  .ite 6
   (oo .idx [0, 4] <|
   oo (.proj 0) [7] <|
   oo (.proj 1) [7] <|
   oo (.proj 2) [7] <|
   oo (.proj 3) [7] <|
   cc 183 [8, 9, 10, 11] 4 <|
   oo .idx [3, 4] <|
   oo .mkagg [12, 13, 14, 15] <|
   oo .set [3, 4, 17] <|
   oo (.iar .add .i64) [4, kI 1] <|
   .out 0 [18, 19])
   (.out 1 [3, 4, 4, 5, 6])))
(.out 0 [3]))
def S184L0 (G : Told) (x0 : D) : List D → Option (Nat × List D) := fun e3 =>
   (gev none .len [x0]).bind fun x5 =>
   (gev none (.icm .lss) [e3.getD 1 .undef, x5]).bind fun x6 =>
   tif x6 (
    (gev none .idx [x0, e3.getD 1 .undef]).bind fun x7 =>
    (gev none (.proj 0) [x7]).bind fun x8 =>
    (gev none (.proj 1) [x7]).bind fun x9 =>
    (gev none (.proj 2) [x7]).bind fun x10 =>
    (gev none (.proj 3) [x7]).bind fun x11 =>
    (gcall G none 183 [x8, x9, x10, x11] 4).bind fun e12 =>
    (gev none .idx [e3.getD 0 .undef, e3.getD 1 .undef]).bind fun _x16 =>
    (gev none .mkagg [e12.getD 0 .undef, e12.getD 1 .undef, e12.getD 2 .undef, e12.getD 3 .undef]).bind fun x17 =>
    (gev none .set [e3.getD 0 .undef, e3.getD 1 .undef, x17]).bind fun x18 =>
    (gev none (.iar .add .i64) [e3.getD 1 .undef, .int 1]).bind fun x19 =>
    some (0, [x18, x19])) (
    some (1, [e3.getD 0 .undef, e3.getD 1 .undef, e3.getD 1 .undef, x5, x6]))
def S184 (G : Told) (fuel : Nat) (x0 : D) : Option (Nat × List D) :=
 (gev none .len [x0]).bind fun x1 =>
 (gev none .rep [x1, (.agg [.int 0, .int 0, .flt 0, .flt 0])]).bind fun x2 =>
 tjoin 5 (
  iter (tbody 2 (S184L0 G x0)) fuel [x2, .int 0]) fun e3 =>
 some (0, [e3.getD 0 .undef])
theorem eq184 {G fuel} (x0) : run G fuel T184 [x0] = S184 G fuel x0 := by rw [run_eq]; kernel_rfl
def T185 : T :=
(oo .len [0] <|
oo .rep [1, kF 0] <|
.join 5
 (.loop [2, kI 0]
  (oo .len [0] <|
  oo (.icm .lss) [4, 5] <|
  .ite 6
   (oo .idx [0, 4] <|
   oo .idx [3, 4] <|
   oo .set [3, 4, 7] <|
   oo (.iar .add .i64) [4, kI 1] <|
   .out 0 [9, 10])
   (.out 1 [3, 4, 4, 5, 6])))
(.out 0 [3]))
def S185L0 (_G : Told) (x0 : D) : List D → Option (Nat × List D) := fun e3 =>
   (gev none .len [x0]).bind fun x5 =>
   (gev none (.icm .lss) [e3.getD 1 .undef, x5]).bind fun x6 =>
   tif x6 (
    (gev none .idx [x0, e3.getD 1 .undef]).bind fun x7 =>
    (gev none .idx [e3.getD 0 .undef, e3.getD 1 .undef]).bind fun _x8 =>
    (gev none .set [e3.getD 0 .undef, e3.getD 1 .undef, x7]).bind fun x9 =>
    (gev none (.iar .add .i64) [e3.getD 1 .undef, .int 1]).bind fun x10 =>
    some (0, [x9, x10])) (
    some (1, [e3.getD 0 .undef, e3.getD 1 .undef, e3.getD 1 .undef, x5, x6]))
def S185 (G : Told) (fuel : Nat) (x0 : D) : Option (Nat × List D) :=
 (gev none .len [x0]).bind fun x1 =>
 (gev none .rep [x1, .flt 0]).bind fun x2 =>
 tjoin 5 (
  iter (tbody 2 (S185L0 G x0)) fuel [x2, .int 0]) fun e3 =>
 some (0, [e3.getD 0 .undef])
theorem eq185 {G fuel} (x0) : run G fuel T185 [x0] = S185 G fuel x0 := by rw [run_eq]; kernel_rfl
def T186 : T :=
(cc 145 [0, 1] 2 <|
cc 184 [2] 1 <|
cc 185 [5] 1 <|
cc 16 [6, 7, 8] 3 <|
.out 0 [9, 10, 11, 3, 4, 12, 13, 14, 15])
def S186 (G : Told) (_fuel : Nat) (x0 x1 x2 x3 x4 x5 x6 x7 x8 : D) : Option (Nat × List D) :=
 (gcall G none 145 [x0, x1] 2).bind fun e9 =>
 (gcall G none 184 [x2] 1).bind fun e11 =>
 (gcall G none 185 [x5] 1).bind fun e12 =>
 (gcall G none 16 [x6, x7, x8] 3).bind fun e13 =>
 some (0, [e9.getD 0 .undef, e9.getD 1 .undef, e11.getD 0 .undef, x3, x4, e12.getD 0 .undef, e13.getD 0 .undef, e13.getD 1 .undef, e13.getD 2 .undef])
theorem eq186 {G fuel} (x0 x1 x2 x3 x4 x5 x6 x7 x8) : run G fuel T186 [x0, x1, x2, x3, x4, x5, x6, x7, x8] = S186 G fuel x0 x1 x2 x3 x4 x5 x6 x7 x8 := by rw [run_eq]; kernel_rfl
def T187 : T :=
(oo (.icm .neq) [0, 4] <|
.ite 8
 (.out 0 [kN])
 (oo (.icm .neq) [1, 5] <|
 .ite 9
  (.out 0 [kN])
  (oo (.f2f .f32 .f64) [2] <|
  oo (.f2f .f32 .f64) [6] <|
  cc 4 [10, 11] 1 <|
  oo .bnot [12] <|
  .ite 13
   (.out 0 [kN])
   (oo (.f2f .f32 .f64) [3] <|
   oo (.f2f .f32 .f64) [7] <|
   cc 4 [14, 15] 1 <|
   oo .bnot [16] <|
   .ite 17
    (.out 0 [kN])
    (.out 0 [kT])))))
def S187 (G : Told) (_fuel : Nat) (x0 x1 x2 x3 x4 x5 x6 x7 : D) : Option (Nat × List D) :=
 (gev none (.icm .neq) [x0, x4]).bind fun x8 =>
 tif x8 (
  some (0, [.bool false])) (
  (gev none (.icm .neq) [x1, x5]).bind fun x9 =>
  tif x9 (
   some (0, [.bool false])) (
   (gev none (.f2f .f32 .f64) [x2]).bind fun x10 =>
   (gev none (.f2f .f32 .f64) [x6]).bind fun x11 =>
   (gcall G none 4 [x10, x11] 1).bind fun e12 =>
   (gev none .bnot [e12.getD 0 .undef]).bind fun x13 =>
   tif x13 (
    some (0, [.bool false])) (
    (gev none (.f2f .f32 .f64) [x3]).bind fun x14 =>
    (gev none (.f2f .f32 .f64) [x7]).bind fun x15 =>
    (gcall G none 4 [x14, x15] 1).bind fun e16 =>
    (gev none .bnot [e16.getD 0 .undef]).bind fun x17 =>
    tif x17 (
     some (0, [.bool false])) (
     some (0, [.bool true])))))
theorem eq187 {G fuel} (x0 x1 x2 x3 x4 x5 x6 x7) : run G fuel T187 [x0, x1, x2, x3, x4, x5, x6, x7] = S187 G fuel x0 x1 x2 x3 x4 x5 x6 x7 := by rw [run_eq]; kernel_rfl
def T188 : T :=
(oo .len [0] <|
oo .len [1] <|
oo (.icm .neq) [2, 3] <|
.ite 4
 (.out 0 [kN])
 (.join 4
  (.loop [kI 0]
   (oo .len [0] <|
   oo (.icm .lss) [5, 6] <|
   .ite 7
    (oo .idx [0, 5] <|
    oo (.proj 0) [8] <|
    oo (.proj 1) [8] <|
    oo (.proj 2) [8] <|
    oo (.proj 3) [8] <|
    oo .idx [1, 5] <|
    oo (.proj 0) [13] <|
    oo (.proj 1) [13] <|
    oo (.proj 2) [13] <|
    oo (.proj 3) [13] <|
    cc 187 [9, 10, 11, 12, 14, 15, 16, 17] 1 <|
    oo .bnot [18] <|
    .ite 19
     (.out 2 [kN])
     (oo (.iar .add .i64) [5, kI 1] <|
     .out 0 [20]))
    (.out 1 [5, 5, 6, 7])))
 (.out 0 [kT])))
def S188L0 (G : Told) (x0 : D) (x1 : D) : List D → Option (Nat × List D) := fun e5 =>
    (gev none .len [x0]).bind fun x6 =>
    (gev none (.icm .lss) [e5.getD 0 .undef, x6]).bind fun x7 =>
    tif x7 (
     (gev none .idx [x0, e5.getD 0 .undef]).bind fun x8 =>
     (gev none (.proj 0) [x8]).bind fun x9 =>
     (gev none (.proj 1) [x8]).bind fun x10 =>
     (gev none (.proj 2) [x8]).bind fun x11 =>
     (gev none (.proj 3) [x8]).bind fun x12 =>
     (gev none .idx [x1, e5.getD 0 .undef]).bind fun x13 =>
     (gev none (.proj 0) [x13]).bind fun x14 =>
     (gev none (.proj 1) [x13]).bind fun x15 =>
     (gev none (.proj 2) [x13]).bind fun x16 =>
     (gev none (.proj 3) [x13]).bind fun x17 =>
     (gcall G none 187 [x9, x10, x11, x12, x14, x15, x16, x17] 1).bind fun e18 =>
     (gev none .bnot [e18.getD 0 .undef]).bind fun x19 =>
     tif x19 (
      some (2, [.bool false])) (
      (gev none (.iar .add .i64) [e5.getD 0 .undef, .int 1]).bind fun x20 =>
      some (0, [x20]))) (
     some (1, [e5.getD 0 .undef, e5.getD 0 .undef, x6, x7]))
def S188 (G : Told) (fuel : Nat) (x0 x1 : D) : Option (Nat × List D) :=
 (gev none .len [x0]).bind fun x2 =>
 (gev none .len [x1]).bind fun x3 =>
 (gev none (.icm .neq) [x2, x3]).bind fun x4 =>
 tif x4 (
  some (0, [.bool false])) (
  tjoin 4 (
   iter (tbody 1 (S188L0 G x0 x1)) fuel [.int 0]) fun _e5 =>
  some (0, [.bool true]))
theorem eq188 {G fuel} (x0 x1) : run G fuel T188 [x0, x1] = S188 G fuel x0 x1 := by rw [run_eq]; kernel_rfl
def T189 : T :=
(oo .len [0] <|
oo .len [1] <|
oo (.icm .neq) [2, 3] <|
.ite 4
 (.out 0 [kN])
 (.join 4
  (.loop [kI 0]
   (oo .len [0] <|
   oo (.icm .lss) [5, 6] <|
   .ite 7
    (oo .idx [0, 5] <|
    oo (.f2f .f32 .f64) [8] <|
    oo .idx [1, 5] <|
    oo (.f2f .f32 .f64) [10] <|
    cc 4 [9, 11] 1 <|
    oo .bnot [12] <|
    .ite 13
     (.out 2 [kN])
     (oo (.iar .add .i64) [5, kI 1] <|
     .out 0 [14]))
    (.out 1 [5, 5, 6, 7])))
 (.out 0 [kT])))
def S189L0 (G : Told) (x0 : D) (x1 : D) : List D → Option (Nat × List D) := fun e5 =>
    (gev none .len [x0]).bind fun x6 =>
    (gev none (.icm .lss) [e5.getD 0 .undef, x6]).bind fun x7 =>
    tif x7 (
     (gev none .idx [x0, e5.getD 0 .undef]).bind fun x8 =>
     (gev none (.f2f .f32 .f64) [x8]).bind fun x9 =>
     (gev none .idx [x1, e5.getD 0 .undef]).bind fun x10 =>
     (gev none (.f2f .f32 .f64) [x10]).bind fun x11 =>
     (gcall G none 4 [x9, x11] 1).bind fun e12 =>
     (gev none .bnot [e12.getD 0 .undef]).bind fun x13 =>
     tif x13 (
      some (2, [.bool false])) (
      (gev none (.iar .add .i64) [e5.getD 0 .undef, .int 1]).bind fun x14 =>
      some (0, [x14]))) (
     some (1, [e5.getD 0 .undef, e5.getD 0 .undef, x6, x7]))
def S189 (G : Told) (fuel : Nat) (x0 x1 : D) : Option (Nat × List D) :=
 (gev none .len [x0]).bind fun x2 =>
 (gev none .len [x1]).bind fun x3 =>
 (gev none (.icm .neq) [x2, x3]).bind fun x4 =>
 tif x4 (
  some (0, [.bool false])) (
  tjoin 4 (
   iter (tbody 1 (S189L0 G x0 x1)) fuel [.int 0]) fun _e5 =>
  some (0, [.bool true]))
theorem eq189 {G fuel} (x0 x1) : run G fuel T189 [x0, x1] = S189 G fuel x0 x1 := by rw [run_eq]; kernel_rfl
def T190 : T :=
(cc 146 [0, 1, 9, 10] 1 <|
oo .bnot [18] <|
.ite 19
 (.out 0 [kN])
 (cc 188 [2, 11] 1 <|
 oo .bnot [20] <|
 .ite 21
  (.out 0 [kN])
  (oo (.f2f .f32 .f64) [3] <|
  oo (.f2f .f32 .f64) [12] <|
  cc 4 [22, 23] 1 <|
  oo .bnot [24] <|
  .ite 25
   (.out 0 [kN])
   (oo (.f2f .f32 .f64) [4] <|
   oo (.f2f .f32 .f64) [13] <|
   cc 4 [26, 27] 1 <|
   oo .bnot [28] <|
   .ite 29
    (.out 0 [kN])
    (cc 189 [5, 14] 1 <|
    oo .bnot [30] <|
    .ite 31
     (.out 0 [kN])
     (cc 40 [6, 7, 8, 15, 16, 17] 1 <|
     oo .bnot [32] <|
     .ite 33
      (.out 0 [kN])
      (.out 0 [kT])))))))
def S190 (G : Told) (_fuel : Nat) (x0 x1 x2 x3 x4 x5 x6 x7 x8 x9 x10 x11 x12 x13 x14 x15 x16 x17 : D) : Option (Nat × List D) :=
 (gcall G none 146 [x0, x1, x9, x10] 1).bind fun e18 =>
 (gev none .bnot [e18.getD 0 .undef]).bind fun x19 =>
 tif x19 (
  some (0, [.bool false])) (
  (gcall G none 188 [x2, x11] 1).bind fun e20 =>
  (gev none .bnot [e20.getD 0 .undef]).bind fun x21 =>
  tif x21 (
   some (0, [.bool false])) (
   (gev none (.f2f .f32 .f64) [x3]).bind fun x22 =>
   (gev none (.f2f .f32 .f64) [x12]).bind fun x23 =>
   (gcall G none 4 [x22, x23] 1).bind fun e24 =>
   (gev none .bnot [e24.getD 0 .undef]).bind fun x25 =>
   tif x25 (
    some (0, [.bool false])) (
    (gev none (.f2f .f32 .f64) [x4]).bind fun x26 =>
    (gev none (.f2f .f32 .f64) [x13]).bind fun x27 =>
    (gcall G none 4 [x26, x27] 1).bind fun e28 =>
    (gev none .bnot [e28.getD 0 .undef]).bind fun x29 =>
    tif x29 (
     some (0, [.bool false])) (
     (gcall G none 189 [x5, x14] 1).bind fun e30 =>
     (gev none .bnot [e30.getD 0 .undef]).bind fun x31 =>
     tif x31 (
      some (0, [.bool false])) (
      (gcall G none 40 [x6, x7, x8, x15, x16, x17] 1).bind fun e32 =>
      (gev none .bnot [e32.getD 0 .undef]).bind fun x33 =>
      tif x33 (
       some (0, [.bool false])) (
       some (0, [.bool true])))))))
theorem eq190 {G fuel} (x0 x1 x2 x3 x4 x5 x6 x7 x8 x9 x10 x11 x12 x13 x14 x15 x16 x17) : run G fuel T190 [x0, x1, x2, x3, x4, x5, x6, x7, x8, x9, x10, x11, x12, x13, x14, x15, x16, x17] = S190 G fuel x0 x1 x2 x3 x4 x5 x6 x7 x8 x9 x10 x11 x12 x13 x14 x15 x16 x17 := by rw [run_eq]; kernel_rfl
def T194 : T :=
(oo (.iar .sub .i64) [4, kI 1] <|
cc 19 [0, kI 0, 5] 1 <|
oT 6 .id [1] <|
oT 6 .id [4] <|
oT 6 (.iar .sub .i64) [8, kI 1] <|
cT 6 19 [7, kI 0, 9] 1 <|
oo .pick [6, 10, kN] <|
oT 11 .id [0] <|
oT 11 .id [1] <|
oT 11 (.icm .neq) [12, 13] <|
oo .pick [11, 14, kN] <|
oT 15 .id [2] <|
oT 15 (.fcm .geq .f32) [16, kF 0] <|
oo .pick [15, 17, kN] <|
.out 0 [18])
def S194 (G : Told) (_fuel : Nat) (x0 x1 x2 _x3 x4 : D) : Option (Nat × List D) :=
 (gev none (.iar .sub .i64) [x4, .int 1]).bind fun x5 =>
 (gcall G none 19 [x0, .int 0, x5] 1).bind fun e6 =>
 (gev (some ((e6.getD 0 .undef), true)) .id [x1]).bind fun x7 =>
 (gev (some ((e6.getD 0 .undef), true)) .id [x4]).bind fun x8 =>
 (gev (some ((e6.getD 0 .undef), true)) (.iar .sub .i64) [x8, .int 1]).bind fun x9 =>
 (gcall G (some ((e6.getD 0 .undef), true)) 19 [x7, .int 0, x9] 1).bind fun e10 =>
 (gev none .pick [e6.getD 0 .undef, e10.getD 0 .undef, .bool false]).bind fun x11 =>
 (gev (some (x11, true)) .id [x0]).bind fun x12 =>
 (gev (some (x11, true)) .id [x1]).bind fun x13 =>
 (gev (some (x11, true)) (.icm .neq) [x12, x13]).bind fun x14 =>
 (gev none .pick [x11, x14, .bool false]).bind fun x15 =>
 (gev (some (x15, true)) .id [x2]).bind fun x16 =>
 (gev (some (x15, true)) (.fcm .geq .f32) [x16, .flt 0]).bind fun x17 =>
 (gev none .pick [x15, x17, .bool false]).bind fun x18 =>
 some (0, [x18])
theorem eq194 {G fuel} (x0 x1 x2 x3 x4) : run G fuel T194 [x0, x1, x2, x3, x4] = S194 G fuel x0 x1 x2 x3 x4 := by rw [run_eq]; kernel_rfl
def T195 : T :=
(oo .len [0] <|
cc 150 [0, 1] 1 <|
oo .bnot [10] <|
oN 11 .id [2] <|
oN 11 .len [12] <|
oN 11 (.icm .gtr) [13, kI 200] <|
oo .pick [11, kT, 14] <|
oN 15 .id [5] <|
oN 15 .len [16] <|
oN 15 .id [9] <|
oN 15 (.icm .neq) [17, 18] <|
oo .pick [15, kT, 19] <|
.ite 20
 (.out 0 [kN])
 (oo .len [2] <|
 .join 2
  (.loop [kI 0]
   (oo (.icm .lss) [22, 21] <|
   .ite 23
    (oo .idx [2, 22] <|
    oo (.proj 0) [24] <|
    oo (.proj 1) [24] <|
    oo (.proj 2) [24] <|
    oo (.proj 3) [24] <|
    oo (.iar .sub .i64) [9, kI 1] <|
    cc 19 [25, kI 0, 29] 1 <|
    oo .bnot [30] <|
    oN 31 .id [26] <|
    oN 31 .id [9] <|
    oN 31 (.iar .sub .i64) [33, kI 1] <|
    cN 31 19 [32, kI 0, 34] 1 <|
    oN 31 .bnot [35] <|
    oo .pick [31, kT, 36] <|
    oN 37 .id [25] <|
    oN 37 .id [26] <|
    oN 37 (.icm .eql) [38, 39] <|
    oo .pick [37, kT, 40] <|
    oN 41 .id [27] <|
    oN 41 (.fcm .geq .f32) [42, kF 0] <|
    oN 41 .bnot [43] <|
    oo .pick [41, kT, 44] <|
    .ite 45
     (.out 2 [kN])
     (oo (.iar .add .i64) [22, kI 1] <|
     .out 0 [46]))
    (.out 1 [22, 23])))
 (.out 0 [kT])))
def S195L0 (G : Told) (x2 : D) (x9 : D) (x21 : D) : List D → Option (Nat × List D) := fun e22 =>
    (gev none (.icm .lss) [e22.getD 0 .undef, x21]).bind fun x23 =>
    tif x23 (
     (gev none .idx [x2, e22.getD 0 .undef]).bind fun x24 =>
     (gev none (.proj 0) [x24]).bind fun x25 =>
     (gev none (.proj 1) [x24]).bind fun x26 =>
     (gev none (.proj 2) [x24]).bind fun x27 =>
     (gev none (.proj 3) [x24]).bind fun _x28 =>
     (gev none (.iar .sub .i64) [x9, .int 1]).bind fun x29 =>
     (gcall G none 19 [x25, .int 0, x29] 1).bind fun e30 =>
     (gev none .bnot [e30.getD 0 .undef]).bind fun x31 =>
     (gev (some (x31, false)) .id [x26]).bind fun x32 =>
     (gev (some (x31, false)) .id [x9]).bind fun x33 =>
     (gev (some (x31, false)) (.iar .sub .i64) [x33, .int 1]).bind fun x34 =>
     (gcall G (some (x31, false)) 19 [x32, .int 0, x34] 1).bind fun e35 =>
     (gev (some (x31, false)) .bnot [e35.getD 0 .undef]).bind fun x36 =>
     (gev none .pick [x31, .bool true, x36]).bind fun x37 =>
     (gev (some (x37, false)) .id [x25]).bind fun x38 =>
     (gev (some (x37, false)) .id [x26]).bind fun x39 =>
     (gev (some (x37, false)) (.icm .eql) [x38, x39]).bind fun x40 =>
     (gev none .pick [x37, .bool true, x40]).bind fun x41 =>
     (gev (some (x41, false)) .id [x27]).bind fun x42 =>
     (gev (some (x41, false)) (.fcm .geq .f32) [x42, .flt 0]).bind fun x43 =>
     (gev (some (x41, false)) .bnot [x43]).bind fun x44 =>
     (gev none .pick [x41, .bool true, x44]).bind fun x45 =>
     tif x45 (
      some (2, [.bool false])) (
      (gev none (.iar .add .i64) [e22.getD 0 .undef, .int 1]).bind fun x46 =>
      some (0, [x46]))) (
     some (1, [e22.getD 0 .undef, x23]))
def S195 (G : Told) (fuel : Nat) (x0 x1 x2 _x3 _x4 x5 _x6 _x7 _x8 : D) : Option (Nat × List D) :=
 (gev none .len [x0]).bind fun x9 =>
 (gcall G none 150 [x0, x1] 1).bind fun e10 =>
 (gev none .bnot [e10.getD 0 .undef]).bind fun x11 =>
 (gev (some (x11, false)) .id [x2]).bind fun x12 =>
 (gev (some (x11, false)) .len [x12]).bind fun x13 =>
 (gev (some (x11, false)) (.icm .gtr) [x13, .int 200]).bind fun x14 =>
 (gev none .pick [x11, .bool true, x14]).bind fun x15 =>
 (gev (some (x15, false)) .id [x5]).bind fun x16 =>
 (gev (some (x15, false)) .len [x16]).bind fun x17 =>
 (gev (some (x15, false)) .id [x9]).bind fun x18 =>
 (gev (some (x15, false)) (.icm .neq) [x17, x18]).bind fun x19 =>
 (gev none .pick [x15, .bool true, x19]).bind fun x20 =>
 tif x20 (
  some (0, [.bool false])) (
  (gev none .len [x2]).bind fun x21 =>
  tjoin 2 (
   iter (tbody 1 (S195L0 G x2 x9 x21)) fuel [.int 0]) fun _e22 =>
  some (0, [.bool true]))
theorem eq195 {G fuel} (x0 x1 x2 x3 x4 x5 x6 x7 x8) : run G fuel T195 [x0, x1, x2, x3, x4, x5, x6, x7, x8] = S195 G fuel x0 x1 x2 x3 x4 x5 x6 x7 x8 := by rw [run_eq]; kernel_rfl
def T195s : T :=
(cc 150 [0, 1] 1 <|
oo .bnot [9] <|
oN 10 .id [2] <|
oN 10 .len [11] <|
oN 10 (.icm .gtr) [12, kI 200] <|
oo .pick [10, kT, 13] <|
oN 14 .id [5] <|
oN 14 .len [15] <|
oN 14 .id [0] <|
oN 14 .len [17] <|
oN 14 (.icm .neq) [16, 18] <|
oo .pick [14, kT, 19] <|
.ite 20
 (.out 0 [kN])
 (oo .len [2] <|
 .join 2
  (.loop [kI 0]
   (oo (.icm .lss) [22, 21] <|
   .ite 23
    (oo .idx [2, 22] <|
    oo (.proj 0) [24] <|
    oo (.proj 1) [24] <|
    oo (.proj 2) [24] <|
    oo (.proj 3) [24] <|
    oo .len [0] <|
    cc 194 [25, 26, 27, 28, 29] 1 <|
    oo .bnot [30] <|
    .ite 31
     (.out 2 [kN])
     (oo (.iar .add .i64) [22, kI 1] <|
     .out 0 [32]))
    (.out 1 [22, 23])))
 (.out 0 [kT])))
def S195sL0 (G : Told) (x0 : D) (x2 : D) (x21 : D) : List D → Option (Nat × List D) := fun e22 =>
    (gev none (.icm .lss) [e22.getD 0 .undef, x21]).bind fun x23 =>
    tif x23 (
     (gev none .idx [x2, e22.getD 0 .undef]).bind fun x24 =>
     (gev none (.proj 0) [x24]).bind fun x25 =>
     (gev none (.proj 1) [x24]).bind fun x26 =>
     (gev none (.proj 2) [x24]).bind fun x27 =>
     (gev none (.proj 3) [x24]).bind fun x28 =>
     (gev none .len [x0]).bind fun x29 =>
     (gcall G none 194 [x25, x26, x27, x28, x29] 1).bind fun e30 =>
     (gev none .bnot [e30.getD 0 .undef]).bind fun x31 =>
     tif x31 (
      some (2, [.bool false])) (
      (gev none (.iar .add .i64) [e22.getD 0 .undef, .int 1]).bind fun x32 =>
      some (0, [x32]))) (
     some (1, [e22.getD 0 .undef, x23]))
def S195s (G : Told) (fuel : Nat) (x0 x1 x2 _x3 _x4 x5 _x6 _x7 _x8 : D) : Option (Nat × List D) :=
 (gcall G none 150 [x0, x1] 1).bind fun e9 =>
 (gev none .bnot [e9.getD 0 .undef]).bind fun x10 =>
 (gev (some (x10, false)) .id [x2]).bind fun x11 =>
 (gev (some (x10, false)) .len [x11]).bind fun x12 =>
 (gev (some (x10, false)) (.icm .gtr) [x12, .int 200]).bind fun x13 =>
 (gev none .pick [x10, .bool true, x13]).bind fun x14 =>
 (gev (some (x14, false)) .id [x5]).bind fun x15 =>
 (gev (some (x14, false)) .len [x15]).bind fun x16 =>
 (gev (some (x14, false)) .id [x0]).bind fun x17 =>
 (gev (some (x14, false)) .len [x17]).bind fun x18 =>
 (gev (some (x14, false)) (.icm .neq) [x16, x18]).bind fun x19 =>
 (gev none .pick [x14, .bool true, x19]).bind fun x20 =>
 tif x20 (
  some (0, [.bool false])) (
  (gev none .len [x2]).bind fun x21 =>
  tjoin 2 (
   iter (tbody 1 (S195sL0 G x0 x2 x21)) fuel [.int 0]) fun _e22 =>
  some (0, [.bool true]))
theorem eq195s {G fuel} (x0 x1 x2 x3 x4 x5 x6 x7 x8) : run G fuel T195s [x0, x1, x2, x3, x4, x5, x6, x7, x8] = S195s G fuel x0 x1 x2 x3 x4 x5 x6 x7 x8 := by rw [run_eq]; kernel_rfl
attribute [local irreducible] tif tjoin IntKind.wrap feq fadd fmul fsub fdiv fgt fge flt fneg i2f sameP wide eqV vl il tl sl fl totL szM szP marksV marksT inr triP validP innerP longP rootP

theorem run180 {G : Told} : Runs G F180 T180 := by
 intro ds rs h
 unfold F180 at h
 split at h
 case h_2 => cases h
 rename_i a m
 obtain ⟨l, ha, h⟩ := Option.bind_eq_some_iff.1 h
 rw [dS_inv ha]
 split at h
 case isFalse => cases h
 rename_i hc
 obtain ⟨h0, h1, h2⟩ := hc
 simp only [Option.some.injEq] at h
 subst h
 refine ⟨0, ?_⟩
 rw [eq180]
 unfold S180
 have hn := len_sl (l := l)
 have hw : gev none (.iar .sub .i64) [.int m, .int l.length] = some (.int (m - l.length)) := by have e : gev none (.iar .sub .i64) [.int m, .int l.length] = some (.int (IntKind.wrap .i64 (m - l.length))) := rfl;rw [e, wrap_sub h0 h1 (by omega) (by omega)]
 unfold szP
 by_cases hz : m - l.length < 0
 ·have hd : decide (m - (l.length : Int) < 0) = true := by simpa using hz
  rw [if_pos hz]
  repeat' first
   | with_reducible refine st_ift ?_
   | with_reducible refine st_iff ?_
   | ((with_reducible apply st_some); exact hn)
   | ((with_reducible apply st_some); exact hw)
   | ((with_reducible apply st_callt); assumption; exact rfl; exact rfl; assumption)
   | ((with_reducible apply st_callf); assumption; exact rfl; exact rfl; assumption)
   | ((with_reducible apply st_call); assumption; exact rfl; exact rfl; exact rfl)
   | ((with_reducible apply st_wide); exact rfl; exact rfl)
   | ((with_reducible apply st_skip); exact rfl)
   | ((with_reducible apply st_t); exact rfl; exact rfl)
   | ((with_reducible apply st_f); exact rfl; exact rfl)
   | ((with_reducible apply st_t); exact rfl; assumption)
   | ((with_reducible apply st_f); exact rfl; assumption)
   | ((with_reducible apply st_some); exact rfl)
   | exact rfl
 ·have hd : decide (m - (l.length : Int) < 0) = false := by simpa using hz
  rw [if_neg hz]
  repeat' first
   | with_reducible refine st_ift ?_
   | with_reducible refine st_iff ?_
   | ((with_reducible apply st_some); exact hn)
   | ((with_reducible apply st_some); exact hw)
   | ((with_reducible apply st_callt); assumption; exact rfl; exact rfl; assumption)
   | ((with_reducible apply st_callf); assumption; exact rfl; exact rfl; assumption)
   | ((with_reducible apply st_call); assumption; exact rfl; exact rfl; exact rfl)
   | ((with_reducible apply st_wide); exact rfl; exact rfl)
   | ((with_reducible apply st_skip); exact rfl)
   | ((with_reducible apply st_t); exact rfl; exact rfl)
   | ((with_reducible apply st_f); exact rfl; exact rfl)
   | ((with_reducible apply st_t); exact rfl; assumption)
   | ((with_reducible apply st_f); exact rfl; assumption)
   | ((with_reducible apply st_some); exact rfl)
   | exact rfl
theorem run181 {G : Told} : Runs G F181 T181 := by
 intro ds rs h
 unfold F181 at h
 split at h
 case h_2 => cases h
 rename_i a m
 obtain ⟨l, ha, h⟩ := Option.bind_eq_some_iff.1 h
 rw [dW_inv ha]
 split at h
 case isFalse => cases h
 rename_i hc
 obtain ⟨h0, h1, h2⟩ := hc
 simp only [Option.some.injEq] at h
 subst h
 refine ⟨0, ?_⟩
 rw [eq181]
 unfold S181
 have hn := len_fl (l := l)
 have hw : gev none (.iar .sub .i64) [.int m, .int l.length] = some (.int (m - l.length)) := by have e : gev none (.iar .sub .i64) [.int m, .int l.length] = some (.int (IntKind.wrap .i64 (m - l.length))) := rfl;rw [e, wrap_sub h0 h1 (by omega) (by omega)]
 unfold szP
 by_cases hz : m - l.length < 0
 ·have hd : decide (m - (l.length : Int) < 0) = true := by simpa using hz
  rw [if_pos hz]
  repeat' first
   | with_reducible refine st_ift ?_
   | with_reducible refine st_iff ?_
   | ((with_reducible apply st_some); exact hn)
   | ((with_reducible apply st_some); exact hw)
   | ((with_reducible apply st_callt); assumption; exact rfl; exact rfl; assumption)
   | ((with_reducible apply st_callf); assumption; exact rfl; exact rfl; assumption)
   | ((with_reducible apply st_call); assumption; exact rfl; exact rfl; exact rfl)
   | ((with_reducible apply st_wide); exact rfl; exact rfl)
   | ((with_reducible apply st_skip); exact rfl)
   | ((with_reducible apply st_t); exact rfl; exact rfl)
   | ((with_reducible apply st_f); exact rfl; exact rfl)
   | ((with_reducible apply st_t); exact rfl; assumption)
   | ((with_reducible apply st_f); exact rfl; assumption)
   | ((with_reducible apply st_some); exact rfl)
   | exact rfl
 ·have hd : decide (m - (l.length : Int) < 0) = false := by simpa using hz
  rw [if_neg hz]
  repeat' first
   | with_reducible refine st_ift ?_
   | with_reducible refine st_iff ?_
   | ((with_reducible apply st_some); exact hn)
   | ((with_reducible apply st_some); exact hw)
   | ((with_reducible apply st_callt); assumption; exact rfl; exact rfl; assumption)
   | ((with_reducible apply st_callf); assumption; exact rfl; exact rfl; assumption)
   | ((with_reducible apply st_call); assumption; exact rfl; exact rfl; exact rfl)
   | ((with_reducible apply st_wide); exact rfl; exact rfl)
   | ((with_reducible apply st_skip); exact rfl)
   | ((with_reducible apply st_t); exact rfl; exact rfl)
   | ((with_reducible apply st_f); exact rfl; exact rfl)
   | ((with_reducible apply st_t); exact rfl; assumption)
   | ((with_reducible apply st_f); exact rfl; assumption)
   | ((with_reducible apply st_some); exact rfl)
   | exact rfl
theorem run182 {G : Told} (g142 : G 142 = F142) (g180 : G 180 = F180) (g181 : G 181 = F181) : Runs G F182 T182 := by
 intro ds rs h
 unfold F182 at h
 obtain ⟨⟨B, r⟩, hb, h⟩ := Option.bind_eq_some_iff.1 h
 rw [dB_inv hb]
 split at h
 case isFalse => cases h
 rename_i hc
 simp only [Option.some.injEq] at h
 subst h
 obtain ⟨hr, hc⟩ := hc
 dsimp only at hr hc
 subst hr
 obtain ⟨vs, ts, ss, fm, bn, ws, x, y, z⟩ := B
 simp only [bd, List.cons_append, List.nil_append]
 refine ⟨0, ?_⟩
 rw [eq182]
 unfold S182
 obtain ⟨hm, hs, hw⟩ := hc
 dsimp only at hm hs hw
 have hz : szB ⟨vs, ts, ss, fm, bn, ws, x, y, z⟩ = szM vs ts + ss.length + ws.length := rfl
 rw [hz]
 have z1 := F142_m hm
 by_cases c1 : szM vs ts ≤ 1048576
 case neg =>
  rw [szP_neg c1] at z1;rw [szP_neg (by omega)]
  repeat' first
   | with_reducible refine st_ift ?_
   | with_reducible refine st_iff ?_
   | ((with_reducible apply st_call); exact g142; exact rfl; exact z1; exact rfl)
   | ((with_reducible apply st_callt); assumption; exact rfl; exact rfl; assumption)
   | ((with_reducible apply st_callf); assumption; exact rfl; exact rfl; assumption)
   | ((with_reducible apply st_call); assumption; exact rfl; exact rfl; exact rfl)
   | ((with_reducible apply st_wide); exact rfl; exact rfl)
   | ((with_reducible apply st_skip); exact rfl)
   | ((with_reducible apply st_t); exact rfl; exact rfl)
   | ((with_reducible apply st_f); exact rfl; exact rfl)
   | ((with_reducible apply st_t); exact rfl; assumption)
   | ((with_reducible apply st_f); exact rfl; assumption)
   | ((with_reducible apply st_some); exact rfl)
   | exact rfl
 rw [szP_pos c1] at z1
 have d1 : decide ((1048576 : Int) - (szM vs ts : Nat) < 0) = false := by simp; omega
 have z2 : F180 [sl ss, .int (1048576 - (szM vs ts : Nat))] = some [.int (szP (1048576 - (szM vs ts : Nat)) ss.length)] := by simp only [F180, dS_sl, Option.bind_some];exact if_pos ⟨by omega, by omega, hs⟩
 by_cases c2 : szM vs ts + ss.length ≤ 1048576
 case neg =>
  have e : szP (1048576 - (szM vs ts : Nat)) ss.length = -1 := by unfold szP;rw [if_pos (by omega)]
  rw [e] at z2;rw [szP_neg (by omega)]
  repeat' first
   | with_reducible refine st_ift ?_
   | with_reducible refine st_iff ?_
   | ((with_reducible apply st_call); exact g142; exact rfl; exact z1; exact rfl)
   | ((with_reducible apply st_call); exact g180; exact rfl; exact z2; exact rfl)
   | ((with_reducible apply st_callt); assumption; exact rfl; exact rfl; assumption)
   | ((with_reducible apply st_callf); assumption; exact rfl; exact rfl; assumption)
   | ((with_reducible apply st_call); assumption; exact rfl; exact rfl; exact rfl)
   | ((with_reducible apply st_wide); exact rfl; exact rfl)
   | ((with_reducible apply st_skip); exact rfl)
   | ((with_reducible apply st_t); exact rfl; exact rfl)
   | ((with_reducible apply st_f); exact rfl; exact rfl)
   | ((with_reducible apply st_t); exact rfl; assumption)
   | ((with_reducible apply st_f); exact rfl; assumption)
   | ((with_reducible apply st_some); exact rfl)
   | exact rfl
 have e2 : szP (1048576 - (szM vs ts : Nat)) ss.length = 1048576 - (szM vs ts : Nat) - ss.length := by unfold szP;rw [if_neg (by omega)]
 rw [e2] at z2
 have d2 : decide ((1048576 : Int) - (szM vs ts : Nat) - ss.length < 0) = false := by simp; omega
 have z3 : F181 [fl ws, .int (1048576 - (szM vs ts : Nat) - ss.length)] = some [.int (szP (1048576 - (szM vs ts : Nat) - ss.length) ws.length)] := by simp only [F181, dW_fl, Option.bind_some];exact if_pos ⟨by omega, by omega, hw⟩
 by_cases c3 : szM vs ts + ss.length + ws.length ≤ 1048576
 case neg =>
  have e : szP (1048576 - (szM vs ts : Nat) - ss.length) ws.length = -1 := by unfold szP;rw [if_pos (by omega)]
  rw [e] at z3;rw [szP_neg (by omega)]
  repeat' first
   | with_reducible refine st_ift ?_
   | with_reducible refine st_iff ?_
   | ((with_reducible apply st_call); exact g142; exact rfl; exact z1; exact rfl)
   | ((with_reducible apply st_call); exact g180; exact rfl; exact z2; exact rfl)
   | ((with_reducible apply st_call); exact g181; exact rfl; exact z3; exact rfl)
   | ((with_reducible apply st_callt); assumption; exact rfl; exact rfl; assumption)
   | ((with_reducible apply st_callf); assumption; exact rfl; exact rfl; assumption)
   | ((with_reducible apply st_call); assumption; exact rfl; exact rfl; exact rfl)
   | ((with_reducible apply st_wide); exact rfl; exact rfl)
   | ((with_reducible apply st_skip); exact rfl)
   | ((with_reducible apply st_t); exact rfl; exact rfl)
   | ((with_reducible apply st_f); exact rfl; exact rfl)
   | ((with_reducible apply st_t); exact rfl; assumption)
   | ((with_reducible apply st_f); exact rfl; assumption)
   | ((with_reducible apply st_some); exact rfl)
   | exact rfl
 have e3 : szP (1048576 - (szM vs ts : Nat) - ss.length) ws.length = 1048576 - (szM vs ts : Nat) - ss.length - ws.length := by unfold szP;rw [if_neg (by omega)]
 rw [e3] at z3
 have d3 : decide ((1048576 : Int) - (szM vs ts : Nat) - ss.length - ws.length < 0) = false := by simp; omega
 rw [szP_pos c3]
 have e : (1048576 : Int) - (szM vs ts + ss.length + ws.length : Nat) = 1048576 - (szM vs ts : Nat) - ss.length - ws.length := by omega
 rw [e]
 repeat' first
  | with_reducible refine st_ift ?_
  | with_reducible refine st_iff ?_
  | ((with_reducible apply st_call); exact g142; exact rfl; exact z1; exact rfl)
  | ((with_reducible apply st_call); exact g180; exact rfl; exact z2; exact rfl)
  | ((with_reducible apply st_call); exact g181; exact rfl; exact z3; exact rfl)
  | ((with_reducible apply st_callt); assumption; exact rfl; exact rfl; assumption)
  | ((with_reducible apply st_callf); assumption; exact rfl; exact rfl; assumption)
  | ((with_reducible apply st_call); assumption; exact rfl; exact rfl; exact rfl)
  | ((with_reducible apply st_wide); exact rfl; exact rfl)
  | ((with_reducible apply st_skip); exact rfl)
  | ((with_reducible apply st_t); exact rfl; exact rfl)
  | ((with_reducible apply st_f); exact rfl; exact rfl)
  | ((with_reducible apply st_t); exact rfl; assumption)
  | ((with_reducible apply st_f); exact rfl; assumption)
  | ((with_reducible apply st_some); exact rfl)
  | exact rfl
theorem run183 {G : Told} : Runs G F183 T183 := by
 intro ds rs h
 unfold F183 at h
 split at h <;> simp only [Option.some.injEq, reduceCtorEq] at h
 subst h
 exact ⟨0, by rw [eq183]; rfl⟩
theorem run184 {G : Told} (g183 : G 183 = F183) : Runs G F184 T184 := by
 intro ds rs h
 unfold F184 at h
 split at h
 case h_2 => cases h
 rename_i a
 obtain ⟨l, ha, h⟩ := Option.bind_eq_some_iff.1 h
 rw [dS_inv ha]
 split at h
 case isFalse => cases h
 rename_i hc
 simp only [Option.some.injEq] at h
 subst h
 refine ⟨l.length + 1, ?_⟩
 rw [eq184]
 unfold S184
 have hr : gev none .rep [.int (l.length : Int), .agg [.int 0, .int 0, .flt 0, .flt 0]] = some (sl (List.replicate l.length (⟨0, 0, 0, 0⟩ : Sp))) := by
  simp only [gev, gok, if_true, Prim.ev, sl];rw [if_pos (by omega)]
  simp [spr]
 have hl : (List.replicate l.length (⟨0, 0, 0, 0⟩ : Sp)).length = l.length := by simp
 generalize List.replicate l.length (⟨0, 0, 0, 0⟩ : Sp) = z at hr hl
 have hn := len_sl (l := l)
 have hloop : iter (tbody 2 (S184L0 G (sl l))) (l.length + 1) [sl z, .int 0] = some (0, [sl l, .int (l.length : Int), .int (l.length : Int), .int (l.length : Int), .bool false]) := by
  have h1 := iter_upto (body := tbody 2 (S184L0 G (sl l))) (n := l.length) (l := 0) (ds := [sl l, .int (l.length : Int), .int (l.length : Int), .int (l.length : Int), .bool false])
   (fun i => [sl (l.take i ++ z.drop i), .int (i : Int)]) ?_ ?_
  ·simpa using h1
  ·intro i hi
   refine tb rfl ?_;have h0 : decide ((i : Int) < (l.length : Int)) = true := by simpa using hi
   have hx := idx_sl hi;have hml := mix_len (a := l) (b := z) (i := i) hl.symm (by omega)
   have hy := idx_sl (l := l.take i ++ z.drop i) (i := i) (by omega)
   have hs := set_sl (l := l.take i ++ z.drop i) (i := i) (v := l[i]) (by omega)
   rw [mix_set hl.symm hi] at hs;have ha := add1n (i := i) (by omega)
   have hf : F183 [.int l[i].a, .int l[i].b, .flt l[i].l, .flt l[i].k] = some [.int l[i].a, .int l[i].b, .flt l[i].l, .flt l[i].k] := rfl;have hs : gev none .set [sl (l.take i ++ z.drop i), .int i, .agg [.int l[i].a, .int l[i].b, .flt l[i].l, .flt l[i].k]] = some (sl (l.take (i + 1) ++ z.drop (i + 1))) := hs;unfold S184L0
   repeat' first
    | with_reducible refine st_ift ?_
    | with_reducible refine st_iff ?_
    | ((with_reducible apply st_call); exact g183; exact rfl; exact hf; exact rfl)
    | ((with_reducible apply st_some); exact hx)
    | ((with_reducible apply st_some); exact hy)
    | ((with_reducible apply st_some); exact hs)
    | ((with_reducible apply st_some); exact ha)
    | ((with_reducible apply st_some); exact hn)
    | ((with_reducible apply st_callt); assumption; exact rfl; exact rfl; assumption)
    | ((with_reducible apply st_callf); assumption; exact rfl; exact rfl; assumption)
    | ((with_reducible apply st_call); assumption; exact rfl; exact rfl; exact rfl)
    | ((with_reducible apply st_wide); exact rfl; exact rfl)
    | ((with_reducible apply st_skip); exact rfl)
    | ((with_reducible apply st_t); exact rfl; exact rfl)
    | ((with_reducible apply st_f); exact rfl; exact rfl)
    | ((with_reducible apply st_t); exact rfl; assumption)
    | ((with_reducible apply st_f); exact rfl; assumption)
    | ((with_reducible apply st_some); exact rfl)
    | exact rfl
  ·refine tb rfl ?_
   have h0 : decide ((l.length : Int) < (l.length : Int)) = false := by simp
   have e : l.take l.length ++ z.drop l.length = l := by rw [← hl]; simp [hl]
   rw [e];unfold S184L0
   repeat' first
    | with_reducible refine st_ift ?_
    | with_reducible refine st_iff ?_
    | ((with_reducible apply st_some); exact hn)
    | ((with_reducible apply st_callt); assumption; exact rfl; exact rfl; assumption)
    | ((with_reducible apply st_callf); assumption; exact rfl; exact rfl; assumption)
    | ((with_reducible apply st_call); assumption; exact rfl; exact rfl; exact rfl)
    | ((with_reducible apply st_wide); exact rfl; exact rfl)
    | ((with_reducible apply st_skip); exact rfl)
    | ((with_reducible apply st_t); exact rfl; exact rfl)
    | ((with_reducible apply st_f); exact rfl; exact rfl)
    | ((with_reducible apply st_t); exact rfl; assumption)
    | ((with_reducible apply st_f); exact rfl; assumption)
    | ((with_reducible apply st_some); exact rfl)
    | exact rfl
 repeat' first
  | with_reducible refine st_ift ?_
  | with_reducible refine st_iff ?_
  | ((with_reducible apply st_join); exact hloop; exact rfl)
  | ((with_reducible apply st_some); exact hn)
  | ((with_reducible apply st_some); exact hr)
  | ((with_reducible apply st_callt); assumption; exact rfl; exact rfl; assumption)
  | ((with_reducible apply st_callf); assumption; exact rfl; exact rfl; assumption)
  | ((with_reducible apply st_call); assumption; exact rfl; exact rfl; exact rfl)
  | ((with_reducible apply st_wide); exact rfl; exact rfl)
  | ((with_reducible apply st_skip); exact rfl)
  | ((with_reducible apply st_t); exact rfl; exact rfl)
  | ((with_reducible apply st_f); exact rfl; exact rfl)
  | ((with_reducible apply st_t); exact rfl; assumption)
  | ((with_reducible apply st_f); exact rfl; assumption)
  | ((with_reducible apply st_some); exact rfl)
  | exact rfl
theorem run185 {G : Told} : Runs G F185 T185 := by
 intro ds rs h
 unfold F185 at h
 split at h
 case h_2 => cases h
 rename_i a
 obtain ⟨l, ha, h⟩ := Option.bind_eq_some_iff.1 h
 rw [dW_inv ha]
 split at h
 case isFalse => cases h
 rename_i hc
 simp only [Option.some.injEq] at h
 subst h
 refine ⟨l.length + 1, ?_⟩
 rw [eq185]
 unfold S185
 have hr : gev none .rep [.int (l.length : Int), .flt 0] = some (fl (List.replicate l.length (0 : Nat))) := by
  simp only [gev, gok, if_true, Prim.ev, fl];rw [if_pos (by omega)]
  simp
 have hl : (List.replicate l.length (0 : Nat)).length = l.length := by simp
 generalize List.replicate l.length (0 : Nat) = z at hr hl
 have hn := len_fl (l := l)
 have hloop : iter (tbody 2 (S185L0 G (fl l))) (l.length + 1) [fl z, .int 0] = some (0, [fl l, .int (l.length : Int), .int (l.length : Int), .int (l.length : Int), .bool false]) := by
  have h1 := iter_upto (body := tbody 2 (S185L0 G (fl l))) (n := l.length) (l := 0) (ds := [fl l, .int (l.length : Int), .int (l.length : Int), .int (l.length : Int), .bool false])
   (fun i => [fl (l.take i ++ z.drop i), .int (i : Int)]) ?_ ?_
  ·simpa using h1
  ·intro i hi
   refine tb rfl ?_;have h0 : decide ((i : Int) < (l.length : Int)) = true := by simpa using hi
   have hx := idx_fl hi;have hml := mix_len (a := l) (b := z) (i := i) hl.symm (by omega)
   have hy := idx_fl (l := l.take i ++ z.drop i) (i := i) (by omega)
   have hs := set_fl (l := l.take i ++ z.drop i) (i := i) (v := l[i]) (by omega)
   rw [mix_set hl.symm hi] at hs;have ha := add1n (i := i) (by omega)
   unfold S185L0
   repeat' first
    | with_reducible refine st_ift ?_
    | with_reducible refine st_iff ?_
    | ((with_reducible apply st_some); exact hx)
    | ((with_reducible apply st_some); exact hy)
    | ((with_reducible apply st_some); exact hs)
    | ((with_reducible apply st_some); exact ha)
    | ((with_reducible apply st_some); exact hn)
    | ((with_reducible apply st_callt); assumption; exact rfl; exact rfl; assumption)
    | ((with_reducible apply st_callf); assumption; exact rfl; exact rfl; assumption)
    | ((with_reducible apply st_call); assumption; exact rfl; exact rfl; exact rfl)
    | ((with_reducible apply st_wide); exact rfl; exact rfl)
    | ((with_reducible apply st_skip); exact rfl)
    | ((with_reducible apply st_t); exact rfl; exact rfl)
    | ((with_reducible apply st_f); exact rfl; exact rfl)
    | ((with_reducible apply st_t); exact rfl; assumption)
    | ((with_reducible apply st_f); exact rfl; assumption)
    | ((with_reducible apply st_some); exact rfl)
    | exact rfl
  ·refine tb rfl ?_
   have h0 : decide ((l.length : Int) < (l.length : Int)) = false := by simp
   have e : l.take l.length ++ z.drop l.length = l := by rw [← hl]; simp [hl]
   rw [e];unfold S185L0
   repeat' first
    | with_reducible refine st_ift ?_
    | with_reducible refine st_iff ?_
    | ((with_reducible apply st_some); exact hn)
    | ((with_reducible apply st_callt); assumption; exact rfl; exact rfl; assumption)
    | ((with_reducible apply st_callf); assumption; exact rfl; exact rfl; assumption)
    | ((with_reducible apply st_call); assumption; exact rfl; exact rfl; exact rfl)
    | ((with_reducible apply st_wide); exact rfl; exact rfl)
    | ((with_reducible apply st_skip); exact rfl)
    | ((with_reducible apply st_t); exact rfl; exact rfl)
    | ((with_reducible apply st_f); exact rfl; exact rfl)
    | ((with_reducible apply st_t); exact rfl; assumption)
    | ((with_reducible apply st_f); exact rfl; assumption)
    | ((with_reducible apply st_some); exact rfl)
    | exact rfl
 repeat' first
  | with_reducible refine st_ift ?_
  | with_reducible refine st_iff ?_
  | ((with_reducible apply st_join); exact hloop; exact rfl)
  | ((with_reducible apply st_some); exact hn)
  | ((with_reducible apply st_some); exact hr)
  | ((with_reducible apply st_callt); assumption; exact rfl; exact rfl; assumption)
  | ((with_reducible apply st_callf); assumption; exact rfl; exact rfl; assumption)
  | ((with_reducible apply st_call); assumption; exact rfl; exact rfl; exact rfl)
  | ((with_reducible apply st_wide); exact rfl; exact rfl)
  | ((with_reducible apply st_skip); exact rfl)
  | ((with_reducible apply st_t); exact rfl; exact rfl)
  | ((with_reducible apply st_f); exact rfl; exact rfl)
  | ((with_reducible apply st_t); exact rfl; assumption)
  | ((with_reducible apply st_f); exact rfl; assumption)
  | ((with_reducible apply st_some); exact rfl)
  | exact rfl
theorem run186 {G : Told} (g16 : G 16 = F16) (g145 : G 145 = F145) (g184 : G 184 = F184) (g185 : G 185 = F185) : Runs G F186 T186 := by
 intro ds rs h
 unfold F186 at h
 obtain ⟨⟨B, r⟩, hb, h⟩ := Option.bind_eq_some_iff.1 h
 rw [dB_inv hb]
 split at h
 case isFalse => cases h
 rename_i hc
 simp only [Option.some.injEq] at h
 subst h
 obtain ⟨hr, hc⟩ := hc
 dsimp only at hr hc
 subst hr
 obtain ⟨vs, ts, ss, fm, bn, ws, x, y, z⟩ := B
 simp only [bd, List.cons_append, List.nil_append]
 have hz : szM vs ts + ss.length + ws.length ≤ 1048576 := hc
 refine ⟨0, ?_⟩
 rw [eq186]
 unfold S186
 have h1 := F145_m (vs := vs) (ts := ts) (by omega)
 have h2 : F184 [sl ss] = some [sl ss] := by simp only [F184, dS_sl, Option.bind_some];exact if_pos (by omega)
 have h3 : F185 [fl ws] = some [fl ws] := by simp only [F185, dW_fl, Option.bind_some];exact if_pos (by omega)
 repeat' first
  | with_reducible refine st_ift ?_
  | with_reducible refine st_iff ?_
  | ((with_reducible apply st_call); exact g145; exact rfl; exact h1; exact rfl)
  | ((with_reducible apply st_call); exact g184; exact rfl; exact h2; exact rfl)
  | ((with_reducible apply st_call); exact g185; exact rfl; exact h3; exact rfl)
  | ((with_reducible apply st_callt); assumption; exact rfl; exact rfl; assumption)
  | ((with_reducible apply st_callf); assumption; exact rfl; exact rfl; assumption)
  | ((with_reducible apply st_call); assumption; exact rfl; exact rfl; exact rfl)
  | ((with_reducible apply st_wide); exact rfl; exact rfl)
  | ((with_reducible apply st_skip); exact rfl)
  | ((with_reducible apply st_t); exact rfl; exact rfl)
  | ((with_reducible apply st_f); exact rfl; exact rfl)
  | ((with_reducible apply st_t); exact rfl; assumption)
  | ((with_reducible apply st_f); exact rfl; assumption)
  | ((with_reducible apply st_some); exact rfl)
  | exact rfl
theorem run187 {G : Told} (g4 : G 4 = F4) : Runs G F187 T187 := by
 intro ds rs h
 unfold F187 at h
 split at h
 case h_2 => cases h
 rename_i a b l k a2 b2 l2 k2
 split at h
 case isFalse => cases h
 rename_i hc
 simp only [Option.some.injEq] at h
 subst h
 obtain ⟨rfl, rfl, rfl, rfl⟩ := hc
 refine ⟨0, ?_⟩
 rw [eq187]
 unfold S187
 have e1 : (a2 != a2) = false := by simp
 have e2 : (b2 != b2) = false := by simp
 have h1 : F4 [.flt (wide l2), .flt (wide l2)] = some [.bool true] := by simp only [F4, sameP_self]
 have h2 : F4 [.flt (wide k2), .flt (wide k2)] = some [.bool true] := by simp only [F4, sameP_self]
 repeat' first
  | with_reducible refine st_ift ?_
  | with_reducible refine st_iff ?_
  | ((with_reducible apply st_call); exact g4; exact rfl; exact h1; exact rfl)
  | ((with_reducible apply st_call); exact g4; exact rfl; exact h2; exact rfl)
  | ((with_reducible apply st_callt); assumption; exact rfl; exact rfl; assumption)
  | ((with_reducible apply st_callf); assumption; exact rfl; exact rfl; assumption)
  | ((with_reducible apply st_call); assumption; exact rfl; exact rfl; exact rfl)
  | ((with_reducible apply st_wide); exact rfl; exact rfl)
  | ((with_reducible apply st_skip); exact rfl)
  | ((with_reducible apply st_t); exact rfl; exact rfl)
  | ((with_reducible apply st_f); exact rfl; exact rfl)
  | ((with_reducible apply st_t); exact rfl; assumption)
  | ((with_reducible apply st_f); exact rfl; assumption)
  | ((with_reducible apply st_some); exact rfl)
  | exact rfl
theorem run188 {G : Told} (g187 : G 187 = F187) : Runs G F188 T188 := by
 intro ds rs h
 unfold F188 at h
 split at h
 case h_2 => cases h
 rename_i a a2
 obtain ⟨l, ha, h⟩ := Option.bind_eq_some_iff.1 h
 split at h
 case isFalse => cases h
 rename_i hc
 simp only [Option.some.injEq] at h
 subst h
 obtain ⟨rfl, hc⟩ := hc
 rw [dS_inv ha]
 refine ⟨l.length + 1, ?_⟩
 rw [eq188]
 unfold S188
 have hn := len_sl (l := l)
 have hloop : iter (tbody 1 (S188L0 G (sl l) (sl l))) (l.length + 1) [.int 0] = some (0, [.int (l.length : Int), .int (l.length : Int), .int (l.length : Int), .bool false]) := by
  refine iter_upto (body := tbody 1 (S188L0 G (sl l) (sl l))) (n := l.length) (l := 0) (fun i => [.int (i : Int)]) ?_ ?_
  ·intro i hi
   refine tb rfl ?_;have h0 : decide ((i : Int) < (l.length : Int)) = true := by simpa using hi
   have hx := idx_sl hi;have ha := add1n (i := i) (by omega)
   have he : F187 [.int l[i].a, .int l[i].b, .flt l[i].l, .flt l[i].k, .int l[i].a, .int l[i].b, .flt l[i].l, .flt l[i].k] = some [.bool true] := by simp [F187]
   unfold S188L0
   repeat' first
    | with_reducible refine st_ift ?_
    | with_reducible refine st_iff ?_
    | ((with_reducible apply st_call); exact g187; exact rfl; exact he; exact rfl)
    | ((with_reducible apply st_some); exact hx)
    | ((with_reducible apply st_some); exact ha)
    | ((with_reducible apply st_some); exact hn)
    | ((with_reducible apply st_callt); assumption; exact rfl; exact rfl; assumption)
    | ((with_reducible apply st_callf); assumption; exact rfl; exact rfl; assumption)
    | ((with_reducible apply st_call); assumption; exact rfl; exact rfl; exact rfl)
    | ((with_reducible apply st_wide); exact rfl; exact rfl)
    | ((with_reducible apply st_skip); exact rfl)
    | ((with_reducible apply st_t); exact rfl; exact rfl)
    | ((with_reducible apply st_f); exact rfl; exact rfl)
    | ((with_reducible apply st_t); exact rfl; assumption)
    | ((with_reducible apply st_f); exact rfl; assumption)
    | ((with_reducible apply st_some); exact rfl)
    | exact rfl
  ·refine tb rfl ?_
   have h0 : decide ((l.length : Int) < (l.length : Int)) = false := by simp
   unfold S188L0
   repeat' first
    | with_reducible refine st_ift ?_
    | with_reducible refine st_iff ?_
    | ((with_reducible apply st_some); exact hn)
    | ((with_reducible apply st_callt); assumption; exact rfl; exact rfl; assumption)
    | ((with_reducible apply st_callf); assumption; exact rfl; exact rfl; assumption)
    | ((with_reducible apply st_call); assumption; exact rfl; exact rfl; exact rfl)
    | ((with_reducible apply st_wide); exact rfl; exact rfl)
    | ((with_reducible apply st_skip); exact rfl)
    | ((with_reducible apply st_t); exact rfl; exact rfl)
    | ((with_reducible apply st_f); exact rfl; exact rfl)
    | ((with_reducible apply st_t); exact rfl; assumption)
    | ((with_reducible apply st_f); exact rfl; assumption)
    | ((with_reducible apply st_some); exact rfl)
    | exact rfl
 have hne : ((l.length : Int) != (l.length : Int)) = false := by simp
 repeat' first
  | with_reducible refine st_ift ?_
  | with_reducible refine st_iff ?_
  | ((with_reducible apply st_join); exact hloop; exact rfl)
  | ((with_reducible apply st_some); exact hn)
  | ((with_reducible apply st_callt); assumption; exact rfl; exact rfl; assumption)
  | ((with_reducible apply st_callf); assumption; exact rfl; exact rfl; assumption)
  | ((with_reducible apply st_call); assumption; exact rfl; exact rfl; exact rfl)
  | ((with_reducible apply st_wide); exact rfl; exact rfl)
  | ((with_reducible apply st_skip); exact rfl)
  | ((with_reducible apply st_t); exact rfl; exact rfl)
  | ((with_reducible apply st_f); exact rfl; exact rfl)
  | ((with_reducible apply st_t); exact rfl; assumption)
  | ((with_reducible apply st_f); exact rfl; assumption)
  | ((with_reducible apply st_some); exact rfl)
  | exact rfl
theorem run189 {G : Told} (g4 : G 4 = F4) : Runs G F189 T189 := by
 intro ds rs h
 unfold F189 at h
 split at h
 case h_2 => cases h
 rename_i a a2
 obtain ⟨l, ha, h⟩ := Option.bind_eq_some_iff.1 h
 split at h
 case isFalse => cases h
 rename_i hc
 simp only [Option.some.injEq] at h
 subst h
 obtain ⟨rfl, hc⟩ := hc
 rw [dW_inv ha]
 refine ⟨l.length + 1, ?_⟩
 rw [eq189]
 unfold S189
 have hn := len_fl (l := l)
 have hloop : iter (tbody 1 (S189L0 G (fl l) (fl l))) (l.length + 1) [.int 0] = some (0, [.int (l.length : Int), .int (l.length : Int), .int (l.length : Int), .bool false]) := by
  refine iter_upto (body := tbody 1 (S189L0 G (fl l) (fl l))) (n := l.length) (l := 0) (fun i => [.int (i : Int)]) ?_ ?_
  ·intro i hi
   refine tb rfl ?_;have h0 : decide ((i : Int) < (l.length : Int)) = true := by simpa using hi
   have hx := idx_fl hi;have ha := add1n (i := i) (by omega)
   have he : F4 [.flt (wide l[i]), .flt (wide l[i])] = some [.bool true] := by simp only [F4, sameP_self]
   unfold S189L0
   repeat' first
    | with_reducible refine st_ift ?_
    | with_reducible refine st_iff ?_
    | ((with_reducible apply st_call); exact g4; exact rfl; exact he; exact rfl)
    | ((with_reducible apply st_some); exact hx)
    | ((with_reducible apply st_some); exact ha)
    | ((with_reducible apply st_some); exact hn)
    | ((with_reducible apply st_callt); assumption; exact rfl; exact rfl; assumption)
    | ((with_reducible apply st_callf); assumption; exact rfl; exact rfl; assumption)
    | ((with_reducible apply st_call); assumption; exact rfl; exact rfl; exact rfl)
    | ((with_reducible apply st_wide); exact rfl; exact rfl)
    | ((with_reducible apply st_skip); exact rfl)
    | ((with_reducible apply st_t); exact rfl; exact rfl)
    | ((with_reducible apply st_f); exact rfl; exact rfl)
    | ((with_reducible apply st_t); exact rfl; assumption)
    | ((with_reducible apply st_f); exact rfl; assumption)
    | ((with_reducible apply st_some); exact rfl)
    | exact rfl
  ·refine tb rfl ?_
   have h0 : decide ((l.length : Int) < (l.length : Int)) = false := by simp
   unfold S189L0
   repeat' first
    | with_reducible refine st_ift ?_
    | with_reducible refine st_iff ?_
    | ((with_reducible apply st_some); exact hn)
    | ((with_reducible apply st_callt); assumption; exact rfl; exact rfl; assumption)
    | ((with_reducible apply st_callf); assumption; exact rfl; exact rfl; assumption)
    | ((with_reducible apply st_call); assumption; exact rfl; exact rfl; exact rfl)
    | ((with_reducible apply st_wide); exact rfl; exact rfl)
    | ((with_reducible apply st_skip); exact rfl)
    | ((with_reducible apply st_t); exact rfl; exact rfl)
    | ((with_reducible apply st_f); exact rfl; exact rfl)
    | ((with_reducible apply st_t); exact rfl; assumption)
    | ((with_reducible apply st_f); exact rfl; assumption)
    | ((with_reducible apply st_some); exact rfl)
    | exact rfl
 have hne : ((l.length : Int) != (l.length : Int)) = false := by simp
 repeat' first
  | with_reducible refine st_ift ?_
  | with_reducible refine st_iff ?_
  | ((with_reducible apply st_join); exact hloop; exact rfl)
  | ((with_reducible apply st_some); exact hn)
  | ((with_reducible apply st_callt); assumption; exact rfl; exact rfl; assumption)
  | ((with_reducible apply st_callf); assumption; exact rfl; exact rfl; assumption)
  | ((with_reducible apply st_call); assumption; exact rfl; exact rfl; exact rfl)
  | ((with_reducible apply st_wide); exact rfl; exact rfl)
  | ((with_reducible apply st_skip); exact rfl)
  | ((with_reducible apply st_t); exact rfl; exact rfl)
  | ((with_reducible apply st_f); exact rfl; exact rfl)
  | ((with_reducible apply st_t); exact rfl; assumption)
  | ((with_reducible apply st_f); exact rfl; assumption)
  | ((with_reducible apply st_some); exact rfl)
  | exact rfl
theorem run190 {G : Told} (g4 : G 4 = F4) (g40 : G 40 = F40) (g146 : G 146 = F146) (g188 : G 188 = F188) (g189 : G 189 = F189) : Runs G F190 T190 := by
 intro ds rs h
 unfold F190 at h
 obtain ⟨⟨B, r⟩, hb, h⟩ := Option.bind_eq_some_iff.1 h
 rw [dB_inv hb]
 split at h
 case isFalse => cases h
 rename_i hc
 simp only [Option.some.injEq] at h
 subst h
 obtain ⟨hr, hc⟩ := hc
 dsimp only at hr hc
 subst hr
 obtain ⟨vs, ts, ss, fm, bn, ws, x, y, z⟩ := B
 simp only [bd, List.cons_append, List.nil_append]
 have hz : szM vs ts + ss.length + ws.length ≤ 1048576 := hc
 refine ⟨0, ?_⟩
 rw [eq190]
 unfold S190
 have h1 := F146_m (vs := vs) (ts := ts) (by omega)
 have h2 : F188 [sl ss, sl ss] = some [.bool true] := by simp only [F188, dS_sl, Option.bind_some];exact if_pos ⟨trivial, by omega⟩
 have h3 : F189 [fl ws, fl ws] = some [.bool true] := by simp only [F189, dW_fl, Option.bind_some];exact if_pos ⟨trivial, by omega⟩
 have h4 : F4 [.flt (wide fm), .flt (wide fm)] = some [.bool true] := by simp only [F4, sameP_self]
 have h5 : F4 [.flt (wide bn), .flt (wide bn)] = some [.bool true] := by simp only [F4, sameP_self]
 have h6 : F40 [.flt x, .flt y, .flt z, .flt x, .flt y, .flt z] = some [.bool true] := by simp only [F40, eqV_self]
 repeat' first
  | with_reducible refine st_ift ?_
  | with_reducible refine st_iff ?_
  | ((with_reducible apply st_call); exact g146; exact rfl; exact h1; exact rfl)
  | ((with_reducible apply st_call); exact g188; exact rfl; exact h2; exact rfl)
  | ((with_reducible apply st_call); exact g189; exact rfl; exact h3; exact rfl)
  | ((with_reducible apply st_call); exact g4; exact rfl; exact h4; exact rfl)
  | ((with_reducible apply st_call); exact g4; exact rfl; exact h5; exact rfl)
  | ((with_reducible apply st_call); exact g40; exact rfl; exact h6; exact rfl)
  | ((with_reducible apply st_callt); assumption; exact rfl; exact rfl; assumption)
  | ((with_reducible apply st_callf); assumption; exact rfl; exact rfl; assumption)
  | ((with_reducible apply st_call); assumption; exact rfl; exact rfl; exact rfl)
  | ((with_reducible apply st_wide); exact rfl; exact rfl)
  | ((with_reducible apply st_skip); exact rfl)
  | ((with_reducible apply st_t); exact rfl; exact rfl)
  | ((with_reducible apply st_f); exact rfl; exact rfl)
  | ((with_reducible apply st_t); exact rfl; assumption)
  | ((with_reducible apply st_f); exact rfl; assumption)
  | ((with_reducible apply st_some); exact rfl)
  | exact rfl
theorem run194 {G : Told} (g19 : G 19 = F19) : Runs G F194 T194 := by
 intro ds rs h
 unfold F194 at h
 split at h
 case h_2 => cases h
 rename_i a b l k n
 split at h
 case isFalse => cases h
 rename_i hc
 simp only [Option.some.injEq] at h
 subst h
 refine ⟨0, ?_⟩
 rw [eq194]
 unfold S194
 have hs := sub1 hc.1 hc.2
 have fa := F19_in a n
 have fb := F19_in b n
 have e : sprP n ⟨a, b, l, k⟩ = (inr n a && inr n b && !(a == b) && fge .f32 l 0) := rfl
 rw [e]
 cases ia : inr n a
 case false =>
  rw [ia] at fa
  repeat' first
   | with_reducible refine st_ift ?_
   | with_reducible refine st_iff ?_
   | ((with_reducible apply st_call); exact g19; exact rfl; exact fa; exact rfl)
   | ((with_reducible apply st_some); exact hs)
   | ((with_reducible apply st_callt); assumption; exact rfl; exact rfl; assumption)
   | ((with_reducible apply st_callf); assumption; exact rfl; exact rfl; assumption)
   | ((with_reducible apply st_call); assumption; exact rfl; exact rfl; exact rfl)
   | ((with_reducible apply st_wide); exact rfl; exact rfl)
   | ((with_reducible apply st_skip); exact rfl)
   | ((with_reducible apply st_t); exact rfl; exact rfl)
   | ((with_reducible apply st_f); exact rfl; exact rfl)
   | ((with_reducible apply st_t); exact rfl; assumption)
   | ((with_reducible apply st_f); exact rfl; assumption)
   | ((with_reducible apply st_some); exact rfl)
   | exact rfl
 rw [ia] at fa
 cases ib : inr n b
 case false =>
  rw [ib] at fb
  repeat' first
   | with_reducible refine st_ift ?_
   | with_reducible refine st_iff ?_
   | ((with_reducible apply st_call); exact g19; exact rfl; exact fa; exact rfl)
   | ((with_reducible apply st_call); exact g19; exact rfl; exact fb; exact rfl)
   | ((with_reducible apply st_some); exact hs)
   | ((with_reducible apply st_callt); assumption; exact rfl; exact rfl; assumption)
   | ((with_reducible apply st_callf); assumption; exact rfl; exact rfl; assumption)
   | ((with_reducible apply st_call); assumption; exact rfl; exact rfl; exact rfl)
   | ((with_reducible apply st_wide); exact rfl; exact rfl)
   | ((with_reducible apply st_skip); exact rfl)
   | ((with_reducible apply st_t); exact rfl; exact rfl)
   | ((with_reducible apply st_f); exact rfl; exact rfl)
   | ((with_reducible apply st_t); exact rfl; assumption)
   | ((with_reducible apply st_f); exact rfl; assumption)
   | ((with_reducible apply st_some); exact rfl)
   | exact rfl
 rw [ib] at fb
 cases hab : a == b
 case true =>
  have hne : (a != b) = false := by simp [bne, hab]
  repeat' first
   | with_reducible refine st_ift ?_
   | with_reducible refine st_iff ?_
   | ((with_reducible apply st_call); exact g19; exact rfl; exact fa; exact rfl)
   | ((with_reducible apply st_call); exact g19; exact rfl; exact fb; exact rfl)
   | ((with_reducible apply st_some); exact hs)
   | ((with_reducible apply st_callt); assumption; exact rfl; exact rfl; assumption)
   | ((with_reducible apply st_callf); assumption; exact rfl; exact rfl; assumption)
   | ((with_reducible apply st_call); assumption; exact rfl; exact rfl; exact rfl)
   | ((with_reducible apply st_wide); exact rfl; exact rfl)
   | ((with_reducible apply st_skip); exact rfl)
   | ((with_reducible apply st_t); exact rfl; exact rfl)
   | ((with_reducible apply st_f); exact rfl; exact rfl)
   | ((with_reducible apply st_t); exact rfl; assumption)
   | ((with_reducible apply st_f); exact rfl; assumption)
   | ((with_reducible apply st_some); exact rfl)
   | exact rfl
 have hne : (a != b) = true := by simp [bne, hab]
 repeat' first
  | with_reducible refine st_ift ?_
  | with_reducible refine st_iff ?_
  | ((with_reducible apply st_call); exact g19; exact rfl; exact fa; exact rfl)
  | ((with_reducible apply st_call); exact g19; exact rfl; exact fb; exact rfl)
  | ((with_reducible apply st_some); exact hs)
  | ((with_reducible apply st_callt); assumption; exact rfl; exact rfl; assumption)
  | ((with_reducible apply st_callf); assumption; exact rfl; exact rfl; assumption)
  | ((with_reducible apply st_call); assumption; exact rfl; exact rfl; exact rfl)
  | ((with_reducible apply st_wide); exact rfl; exact rfl)
  | ((with_reducible apply st_skip); exact rfl)
  | ((with_reducible apply st_t); exact rfl; exact rfl)
  | ((with_reducible apply st_f); exact rfl; exact rfl)
  | ((with_reducible apply st_t); exact rfl; assumption)
  | ((with_reducible apply st_f); exact rfl; assumption)
  | ((with_reducible apply st_some); exact rfl)
  | exact rfl
theorem run195 {G : Told} (g19 : G 19 = F19) (g150 : G 150 = F150) : Runs G F195 T195 := by
 intro ds rs h
 unfold F195 at h
 obtain ⟨⟨B, r⟩, hb, h⟩ := Option.bind_eq_some_iff.1 h
 rw [dB_inv hb]
 split at h
 case isFalse => cases h
 rename_i hc
 simp only [Option.some.injEq] at h
 subst h
 obtain ⟨hr, hc⟩ := hc
 dsimp only at hr hc
 subst hr
 obtain ⟨vs, ts, ss, fm, bn, ws, x, y, z⟩ := B
 simp only [bd, List.cons_append, List.nil_append]
 have hz : szM vs ts + ss.length + ws.length ≤ 1048576 := hc
 refine ⟨ss.length + 4, ?_⟩
 rw [eq195]
 unfold S195
 have hv := F150_m (vs := vs) (ts := ts) (by omega)
 have hn := len_vl (l := vs)
 have hns := len_sl (l := ss)
 have hnw := len_fl (l := ws)
 have hm := len_tl (l := ts)
 have e0 : validB ⟨vs, ts, ss, fm, bn, ws, x, y, z⟩ = (validP vs.length ts && decide (ss.length ≤ 200) && decide (ws.length = vs.length) && ss.all (sprP vs.length)) := rfl
 rw [e0]
 cases hval : validP vs.length ts
 case false =>
  rw [hval] at hv
  repeat' first
   | with_reducible refine st_ift ?_
   | with_reducible refine st_iff ?_
   | ((with_reducible apply st_call); exact g150; exact rfl; exact hv; exact rfl)
   | ((with_reducible apply st_some); exact hn)
   | ((with_reducible apply st_some); exact hm)
   | ((with_reducible apply st_some); exact hnw)
   | ((with_reducible apply st_some); exact hns)
   | ((with_reducible apply st_callt); assumption; exact rfl; exact rfl; assumption)
   | ((with_reducible apply st_callf); assumption; exact rfl; exact rfl; assumption)
   | ((with_reducible apply st_call); assumption; exact rfl; exact rfl; exact rfl)
   | ((with_reducible apply st_wide); exact rfl; exact rfl)
   | ((with_reducible apply st_skip); exact rfl)
   | ((with_reducible apply st_t); exact rfl; exact rfl)
   | ((with_reducible apply st_f); exact rfl; exact rfl)
   | ((with_reducible apply st_t); exact rfl; assumption)
   | ((with_reducible apply st_f); exact rfl; assumption)
   | ((with_reducible apply st_some); exact rfl)
   | exact rfl
 rw [hval] at hv
 by_cases h200 : ss.length ≤ 200
 case neg =>
  have d1 : decide ((ss.length : Int) > 200) = true := by simp; omega
  have d2 : decide (ss.length ≤ 200) = false := by simp; omega
  rw [d2]
  repeat' first
   | with_reducible refine st_ift ?_
   | with_reducible refine st_iff ?_
   | ((with_reducible apply st_call); exact g150; exact rfl; exact hv; exact rfl)
   | ((with_reducible apply st_some); exact hn)
   | ((with_reducible apply st_some); exact hm)
   | ((with_reducible apply st_some); exact hnw)
   | ((with_reducible apply st_some); exact hns)
   | ((with_reducible apply st_callt); assumption; exact rfl; exact rfl; assumption)
   | ((with_reducible apply st_callf); assumption; exact rfl; exact rfl; assumption)
   | ((with_reducible apply st_call); assumption; exact rfl; exact rfl; exact rfl)
   | ((with_reducible apply st_wide); exact rfl; exact rfl)
   | ((with_reducible apply st_skip); exact rfl)
   | ((with_reducible apply st_t); exact rfl; exact rfl)
   | ((with_reducible apply st_f); exact rfl; exact rfl)
   | ((with_reducible apply st_t); exact rfl; assumption)
   | ((with_reducible apply st_f); exact rfl; assumption)
   | ((with_reducible apply st_some); exact rfl)
   | exact rfl
 have d1 : decide ((ss.length : Int) > 200) = false := by simp; omega
 have d2 : decide (ss.length ≤ 200) = true := by simpa using h200
 rw [d2]
 by_cases hws : ws.length = vs.length
 case neg =>
  have d3 : ((ws.length : Int) != (vs.length : Int)) = true := by simp; omega
  have d4 : decide (ws.length = vs.length) = false := by simpa using hws
  rw [d4]
  repeat' first
   | with_reducible refine st_ift ?_
   | with_reducible refine st_iff ?_
   | ((with_reducible apply st_call); exact g150; exact rfl; exact hv; exact rfl)
   | ((with_reducible apply st_some); exact hn)
   | ((with_reducible apply st_some); exact hm)
   | ((with_reducible apply st_some); exact hnw)
   | ((with_reducible apply st_some); exact hns)
   | ((with_reducible apply st_callt); assumption; exact rfl; exact rfl; assumption)
   | ((with_reducible apply st_callf); assumption; exact rfl; exact rfl; assumption)
   | ((with_reducible apply st_call); assumption; exact rfl; exact rfl; exact rfl)
   | ((with_reducible apply st_wide); exact rfl; exact rfl)
   | ((with_reducible apply st_skip); exact rfl)
   | ((with_reducible apply st_t); exact rfl; exact rfl)
   | ((with_reducible apply st_f); exact rfl; exact rfl)
   | ((with_reducible apply st_t); exact rfl; assumption)
   | ((with_reducible apply st_f); exact rfl; assumption)
   | ((with_reducible apply st_some); exact rfl)
   | exact rfl
 have d3 : ((ws.length : Int) != (vs.length : Int)) = false := by simp; omega
 have d4 : decide (ws.length = vs.length) = true := by simpa using hws
 rw [d4]
 simp only [Bool.true_and]
 have hs := sub1 (n := vs.length) (by omega) (by omega)
 have hgo : ∀ i, (hi : i < ss.length) → sprP vs.length ss[i] = true → tbody 1 (S195L0 G (sl ss) (.int (vs.length : Int)) (.int (ss.length : Int))) [.int (i : Int)] = some (0, [.int ((i + 1 : Nat) : Int)]) := by
  intro i hi hg;refine tb rfl ?_;have h0 : decide ((i : Int) < (ss.length : Int)) = true := by simpa using hi
  have hx := idx_sl hi;have ha := add1n (i := i) (by omega)
  have fa := F19_in ss[i].a vs.length;have fb := F19_in ss[i].b vs.length;unfold sprP at hg;generalize ss[i] = s at *;simp only [Bool.and_eq_true, Bool.not_eq_true'] at hg;obtain ⟨⟨⟨ia, ib⟩, hab⟩, hge⟩ := hg;rw [ia] at fa;rw [ib] at fb;unfold S195L0
  repeat' first
   | with_reducible refine st_ift ?_
   | with_reducible refine st_iff ?_
   | ((with_reducible apply st_call); exact g19; exact rfl; exact fa; exact rfl)
   | ((with_reducible apply st_call); exact g19; exact rfl; exact fb; exact rfl)
   | ((with_reducible apply st_some); exact hx)
   | ((with_reducible apply st_some); exact ha)
   | ((with_reducible apply st_some); exact hs)
   | ((with_reducible apply st_callt); assumption; exact rfl; exact rfl; assumption)
   | ((with_reducible apply st_callf); assumption; exact rfl; exact rfl; assumption)
   | ((with_reducible apply st_call); assumption; exact rfl; exact rfl; exact rfl)
   | ((with_reducible apply st_wide); exact rfl; exact rfl)
   | ((with_reducible apply st_skip); exact rfl)
   | ((with_reducible apply st_t); exact rfl; exact rfl)
   | ((with_reducible apply st_f); exact rfl; exact rfl)
   | ((with_reducible apply st_t); exact rfl; assumption)
   | ((with_reducible apply st_f); exact rfl; assumption)
   | ((with_reducible apply st_some); exact rfl)
   | exact rfl
 have hbad : ∀ i, (hi : i < ss.length) → sprP vs.length ss[i] = false → tbody 1 (S195L0 G (sl ss) (.int (vs.length : Int)) (.int (ss.length : Int))) [.int (i : Int)] = some (2, [.bool false]) := by
  intro i hi hg;refine tb rfl ?_;have h0 : decide ((i : Int) < (ss.length : Int)) = true := by simpa using hi
  have hx := idx_sl hi;have fa := F19_in ss[i].a vs.length;have fb := F19_in ss[i].b vs.length;unfold sprP at hg;generalize ss[i] = s at *;unfold S195L0
  cases ia : inr vs.length s.a
  case false =>
   rw [ia] at fa
   repeat' first
    | with_reducible refine st_ift ?_
    | with_reducible refine st_iff ?_
    | ((with_reducible apply st_call); exact g19; exact rfl; exact fa; exact rfl)
    | ((with_reducible apply st_call); exact g19; exact rfl; exact fb; exact rfl)
    | ((with_reducible apply st_some); exact hx)
    | ((with_reducible apply st_some); exact hs)
    | ((with_reducible apply st_callt); assumption; exact rfl; exact rfl; assumption)
    | ((with_reducible apply st_callf); assumption; exact rfl; exact rfl; assumption)
    | ((with_reducible apply st_call); assumption; exact rfl; exact rfl; exact rfl)
    | ((with_reducible apply st_wide); exact rfl; exact rfl)
    | ((with_reducible apply st_skip); exact rfl)
    | ((with_reducible apply st_t); exact rfl; exact rfl)
    | ((with_reducible apply st_f); exact rfl; exact rfl)
    | ((with_reducible apply st_t); exact rfl; assumption)
    | ((with_reducible apply st_f); exact rfl; assumption)
    | ((with_reducible apply st_some); exact rfl)
    | exact rfl
  rw [ia] at fa hg
  cases ib : inr vs.length s.b
  case false =>
   rw [ib] at fb
   repeat' first
    | with_reducible refine st_ift ?_
    | with_reducible refine st_iff ?_
    | ((with_reducible apply st_call); exact g19; exact rfl; exact fa; exact rfl)
    | ((with_reducible apply st_call); exact g19; exact rfl; exact fb; exact rfl)
    | ((with_reducible apply st_some); exact hx)
    | ((with_reducible apply st_some); exact hs)
    | ((with_reducible apply st_callt); assumption; exact rfl; exact rfl; assumption)
    | ((with_reducible apply st_callf); assumption; exact rfl; exact rfl; assumption)
    | ((with_reducible apply st_call); assumption; exact rfl; exact rfl; exact rfl)
    | ((with_reducible apply st_wide); exact rfl; exact rfl)
    | ((with_reducible apply st_skip); exact rfl)
    | ((with_reducible apply st_t); exact rfl; exact rfl)
    | ((with_reducible apply st_f); exact rfl; exact rfl)
    | ((with_reducible apply st_t); exact rfl; assumption)
    | ((with_reducible apply st_f); exact rfl; assumption)
    | ((with_reducible apply st_some); exact rfl)
    | exact rfl
  rw [ib] at fb hg
  cases hab : s.a == s.b
  case true =>
   repeat' first
    | with_reducible refine st_ift ?_
    | with_reducible refine st_iff ?_
    | ((with_reducible apply st_call); exact g19; exact rfl; exact fa; exact rfl)
    | ((with_reducible apply st_call); exact g19; exact rfl; exact fb; exact rfl)
    | ((with_reducible apply st_some); exact hx)
    | ((with_reducible apply st_some); exact hs)
    | ((with_reducible apply st_callt); assumption; exact rfl; exact rfl; assumption)
    | ((with_reducible apply st_callf); assumption; exact rfl; exact rfl; assumption)
    | ((with_reducible apply st_call); assumption; exact rfl; exact rfl; exact rfl)
    | ((with_reducible apply st_wide); exact rfl; exact rfl)
    | ((with_reducible apply st_skip); exact rfl)
    | ((with_reducible apply st_t); exact rfl; exact rfl)
    | ((with_reducible apply st_f); exact rfl; exact rfl)
    | ((with_reducible apply st_t); exact rfl; assumption)
    | ((with_reducible apply st_f); exact rfl; assumption)
    | ((with_reducible apply st_some); exact rfl)
    | exact rfl
  rw [hab] at hg;simp only [Bool.and_self, Bool.not_false, Bool.true_and] at hg
  repeat' first
   | with_reducible refine st_ift ?_
   | with_reducible refine st_iff ?_
   | ((with_reducible apply st_call); exact g19; exact rfl; exact fa; exact rfl)
   | ((with_reducible apply st_call); exact g19; exact rfl; exact fb; exact rfl)
   | ((with_reducible apply st_some); exact hx)
   | ((with_reducible apply st_some); exact hs)
   | ((with_reducible apply st_callt); assumption; exact rfl; exact rfl; assumption)
   | ((with_reducible apply st_callf); assumption; exact rfl; exact rfl; assumption)
   | ((with_reducible apply st_call); assumption; exact rfl; exact rfl; exact rfl)
   | ((with_reducible apply st_wide); exact rfl; exact rfl)
   | ((with_reducible apply st_skip); exact rfl)
   | ((with_reducible apply st_t); exact rfl; exact rfl)
   | ((with_reducible apply st_f); exact rfl; exact rfl)
   | ((with_reducible apply st_t); exact rfl; assumption)
   | ((with_reducible apply st_f); exact rfl; assumption)
   | ((with_reducible apply st_some); exact rfl)
   | exact rfl
 cases hall : ss.all (sprP vs.length)
 case true =>
  have hloop : iter (tbody 1 (S195L0 G (sl ss) (.int (vs.length : Int)) (.int (ss.length : Int)))) (ss.length + 4) [.int 0] = some (0, [.int (ss.length : Int), .bool false]) := by
   refine iter_to (body := tbody 1 (S195L0 G (sl ss) (.int (vs.length : Int)) (.int (ss.length : Int)))) (n := ss.length) (l := 0) (fun i => [.int (i : Int)]) (by omega) (fun i hi => hgo i hi ?_) ?_
   ·exact List.all_eq_true.1 hall _ (List.getElem_mem hi)
   ·refine tb rfl ?_
    have h0 : decide ((ss.length : Int) < (ss.length : Int)) = false := by simp
    unfold S195L0
    repeat' first
     | with_reducible refine st_ift ?_
     | with_reducible refine st_iff ?_
     | ((with_reducible apply st_callt); assumption; exact rfl; exact rfl; assumption)
     | ((with_reducible apply st_callf); assumption; exact rfl; exact rfl; assumption)
     | ((with_reducible apply st_call); assumption; exact rfl; exact rfl; exact rfl)
     | ((with_reducible apply st_wide); exact rfl; exact rfl)
     | ((with_reducible apply st_skip); exact rfl)
     | ((with_reducible apply st_t); exact rfl; exact rfl)
     | ((with_reducible apply st_f); exact rfl; exact rfl)
     | ((with_reducible apply st_t); exact rfl; assumption)
     | ((with_reducible apply st_f); exact rfl; assumption)
     | ((with_reducible apply st_some); exact rfl)
     | exact rfl
  repeat' first
   | with_reducible refine st_ift ?_
   | with_reducible refine st_iff ?_
   | ((with_reducible apply st_join); exact hloop; exact rfl)
   | ((with_reducible apply st_call); exact g150; exact rfl; exact hv; exact rfl)
   | ((with_reducible apply st_some); exact hn)
   | ((with_reducible apply st_some); exact hm)
   | ((with_reducible apply st_some); exact hnw)
   | ((with_reducible apply st_some); exact hns)
   | ((with_reducible apply st_callt); assumption; exact rfl; exact rfl; assumption)
   | ((with_reducible apply st_callf); assumption; exact rfl; exact rfl; assumption)
   | ((with_reducible apply st_call); assumption; exact rfl; exact rfl; exact rfl)
   | ((with_reducible apply st_wide); exact rfl; exact rfl)
   | ((with_reducible apply st_skip); exact rfl)
   | ((with_reducible apply st_t); exact rfl; exact rfl)
   | ((with_reducible apply st_f); exact rfl; exact rfl)
   | ((with_reducible apply st_t); exact rfl; assumption)
   | ((with_reducible apply st_f); exact rfl; assumption)
   | ((with_reducible apply st_some); exact rfl)
   | exact rfl
 case false =>
  have hloop : iter (tbody 1 (S195L0 G (sl ss) (.int (vs.length : Int)) (.int (ss.length : Int)))) (ss.length + 4) [.int 0] = some (1, [.bool false]) := by
   refine iter_bad (body := tbody 1 (S195L0 G (sl ss) (.int (vs.length : Int)) (.int (ss.length : Int)))) (n := ss.length) (l := 1) (fun i => [.int (i : Int)]) (fun i => sprP vs.length (ss.getD i ⟨0, 0, 0, 0⟩) = true) (by omega) (fun i hi hg => hgo i hi ?_) (fun i hi hg => hbad i hi ?_) ?_
   ·rwa [getD_lt hi] at hg
   ·rw [getD_lt hi] at hg
    simpa using hg
   ·rw [List.all_eq_false] at hall
    obtain ⟨t, ht, hg⟩ := hall;obtain ⟨i, hi, rfl⟩ := List.getElem_of_mem ht;exact ⟨i, hi, by rwa [getD_lt hi]⟩
  repeat' first
   | with_reducible refine st_ift ?_
   | with_reducible refine st_iff ?_
   | ((with_reducible apply st_out); exact hloop)
   | ((with_reducible apply st_call); exact g150; exact rfl; exact hv; exact rfl)
   | ((with_reducible apply st_some); exact hn)
   | ((with_reducible apply st_some); exact hm)
   | ((with_reducible apply st_some); exact hnw)
   | ((with_reducible apply st_some); exact hns)
   | ((with_reducible apply st_callt); assumption; exact rfl; exact rfl; assumption)
   | ((with_reducible apply st_callf); assumption; exact rfl; exact rfl; assumption)
   | ((with_reducible apply st_call); assumption; exact rfl; exact rfl; exact rfl)
   | ((with_reducible apply st_wide); exact rfl; exact rfl)
   | ((with_reducible apply st_skip); exact rfl)
   | ((with_reducible apply st_t); exact rfl; exact rfl)
   | ((with_reducible apply st_f); exact rfl; exact rfl)
   | ((with_reducible apply st_t); exact rfl; assumption)
   | ((with_reducible apply st_f); exact rfl; assumption)
   | ((with_reducible apply st_some); exact rfl)
   | exact rfl
theorem run195s {G : Told} (g194 : G 194 = F194) (g150 : G 150 = F150) : Runs G F195 T195s := by
 intro ds rs h
 unfold F195 at h
 obtain ⟨⟨B, r⟩, hb, h⟩ := Option.bind_eq_some_iff.1 h
 rw [dB_inv hb]
 split at h
 case isFalse => cases h
 rename_i hc
 simp only [Option.some.injEq] at h
 subst h
 obtain ⟨hr, hc⟩ := hc
 dsimp only at hr hc
 subst hr
 obtain ⟨vs, ts, ss, fm, bn, ws, x, y, z⟩ := B
 simp only [bd, List.cons_append, List.nil_append]
 have hz : szM vs ts + ss.length + ws.length ≤ 1048576 := hc
 refine ⟨ss.length + 4, ?_⟩
 rw [eq195s]
 unfold S195s
 have hv := F150_m (vs := vs) (ts := ts) (by omega)
 have hn := len_vl (l := vs)
 have hns := len_sl (l := ss)
 have hnw := len_fl (l := ws)
 have hm := len_tl (l := ts)
 have e0 : validB ⟨vs, ts, ss, fm, bn, ws, x, y, z⟩ = (validP vs.length ts && decide (ss.length ≤ 200) && decide (ws.length = vs.length) && ss.all (sprP vs.length)) := rfl
 rw [e0]
 cases hval : validP vs.length ts
 case false =>
  rw [hval] at hv
  repeat' first
   | with_reducible refine st_ift ?_
   | with_reducible refine st_iff ?_
   | ((with_reducible apply st_call); exact g150; exact rfl; exact hv; exact rfl)
   | ((with_reducible apply st_some); exact hn)
   | ((with_reducible apply st_some); exact hm)
   | ((with_reducible apply st_some); exact hnw)
   | ((with_reducible apply st_some); exact hns)
   | ((with_reducible apply st_callt); assumption; exact rfl; exact rfl; assumption)
   | ((with_reducible apply st_callf); assumption; exact rfl; exact rfl; assumption)
   | ((with_reducible apply st_call); assumption; exact rfl; exact rfl; exact rfl)
   | ((with_reducible apply st_wide); exact rfl; exact rfl)
   | ((with_reducible apply st_skip); exact rfl)
   | ((with_reducible apply st_t); exact rfl; exact rfl)
   | ((with_reducible apply st_f); exact rfl; exact rfl)
   | ((with_reducible apply st_t); exact rfl; assumption)
   | ((with_reducible apply st_f); exact rfl; assumption)
   | ((with_reducible apply st_some); exact rfl)
   | exact rfl
 rw [hval] at hv
 by_cases h200 : ss.length ≤ 200
 case neg =>
  have d1 : decide ((ss.length : Int) > 200) = true := by simp; omega
  have d2 : decide (ss.length ≤ 200) = false := by simp; omega
  rw [d2]
  repeat' first
   | with_reducible refine st_ift ?_
   | with_reducible refine st_iff ?_
   | ((with_reducible apply st_call); exact g150; exact rfl; exact hv; exact rfl)
   | ((with_reducible apply st_some); exact hn)
   | ((with_reducible apply st_some); exact hm)
   | ((with_reducible apply st_some); exact hnw)
   | ((with_reducible apply st_some); exact hns)
   | ((with_reducible apply st_callt); assumption; exact rfl; exact rfl; assumption)
   | ((with_reducible apply st_callf); assumption; exact rfl; exact rfl; assumption)
   | ((with_reducible apply st_call); assumption; exact rfl; exact rfl; exact rfl)
   | ((with_reducible apply st_wide); exact rfl; exact rfl)
   | ((with_reducible apply st_skip); exact rfl)
   | ((with_reducible apply st_t); exact rfl; exact rfl)
   | ((with_reducible apply st_f); exact rfl; exact rfl)
   | ((with_reducible apply st_t); exact rfl; assumption)
   | ((with_reducible apply st_f); exact rfl; assumption)
   | ((with_reducible apply st_some); exact rfl)
   | exact rfl
 have d1 : decide ((ss.length : Int) > 200) = false := by simp; omega
 have d2 : decide (ss.length ≤ 200) = true := by simpa using h200
 rw [d2]
 by_cases hws : ws.length = vs.length
 case neg =>
  have d3 : ((ws.length : Int) != (vs.length : Int)) = true := by simp; omega
  have d4 : decide (ws.length = vs.length) = false := by simpa using hws
  rw [d4]
  repeat' first
   | with_reducible refine st_ift ?_
   | with_reducible refine st_iff ?_
   | ((with_reducible apply st_call); exact g150; exact rfl; exact hv; exact rfl)
   | ((with_reducible apply st_some); exact hn)
   | ((with_reducible apply st_some); exact hm)
   | ((with_reducible apply st_some); exact hnw)
   | ((with_reducible apply st_some); exact hns)
   | ((with_reducible apply st_callt); assumption; exact rfl; exact rfl; assumption)
   | ((with_reducible apply st_callf); assumption; exact rfl; exact rfl; assumption)
   | ((with_reducible apply st_call); assumption; exact rfl; exact rfl; exact rfl)
   | ((with_reducible apply st_wide); exact rfl; exact rfl)
   | ((with_reducible apply st_skip); exact rfl)
   | ((with_reducible apply st_t); exact rfl; exact rfl)
   | ((with_reducible apply st_f); exact rfl; exact rfl)
   | ((with_reducible apply st_t); exact rfl; assumption)
   | ((with_reducible apply st_f); exact rfl; assumption)
   | ((with_reducible apply st_some); exact rfl)
   | exact rfl
 have d3 : ((ws.length : Int) != (vs.length : Int)) = false := by simp; omega
 have d4 : decide (ws.length = vs.length) = true := by simpa using hws
 rw [d4]
 simp only [Bool.true_and]
 have hs := sub1 (n := vs.length) (by omega) (by omega)
 have hgo : ∀ i, (hi : i < ss.length) → sprP vs.length ss[i] = true → tbody 1 (S195sL0 G (vl vs) (sl ss) (.int (ss.length : Int))) [.int (i : Int)] = some (0, [.int ((i + 1 : Nat) : Int)]) := by
  intro i hi hg;refine tb rfl ?_;have h0 : decide ((i : Int) < (ss.length : Int)) = true := by simpa using hi
  have hx := idx_sl hi;have ha := add1n (i := i) (by omega)
  have hf : F194 [.int ss[i].a, .int ss[i].b, .flt ss[i].l, .flt ss[i].k, .int vs.length] = some [.bool (sprP vs.length ss[i])] := by simp only [F194];exact if_pos ⟨by omega, by omega⟩
  rw [hg] at hf;unfold S195sL0
  repeat' first
   | with_reducible refine st_ift ?_
   | with_reducible refine st_iff ?_
   | ((with_reducible apply st_call); exact g194; exact rfl; exact hf; exact rfl)
   | ((with_reducible apply st_some); exact hx)
   | ((with_reducible apply st_some); exact ha)
   | ((with_reducible apply st_some); exact hn)
   | ((with_reducible apply st_callt); assumption; exact rfl; exact rfl; assumption)
   | ((with_reducible apply st_callf); assumption; exact rfl; exact rfl; assumption)
   | ((with_reducible apply st_call); assumption; exact rfl; exact rfl; exact rfl)
   | ((with_reducible apply st_wide); exact rfl; exact rfl)
   | ((with_reducible apply st_skip); exact rfl)
   | ((with_reducible apply st_t); exact rfl; exact rfl)
   | ((with_reducible apply st_f); exact rfl; exact rfl)
   | ((with_reducible apply st_t); exact rfl; assumption)
   | ((with_reducible apply st_f); exact rfl; assumption)
   | ((with_reducible apply st_some); exact rfl)
   | exact rfl
 have hbad : ∀ i, (hi : i < ss.length) → sprP vs.length ss[i] = false → tbody 1 (S195sL0 G (vl vs) (sl ss) (.int (ss.length : Int))) [.int (i : Int)] = some (2, [.bool false]) := by
  intro i hi hg;refine tb rfl ?_;have h0 : decide ((i : Int) < (ss.length : Int)) = true := by simpa using hi
  have hx := idx_sl hi;have hf : F194 [.int ss[i].a, .int ss[i].b, .flt ss[i].l, .flt ss[i].k, .int vs.length] = some [.bool (sprP vs.length ss[i])] := by simp only [F194];exact if_pos ⟨by omega, by omega⟩
  rw [hg] at hf;unfold S195sL0
  repeat' first
   | with_reducible refine st_ift ?_
   | with_reducible refine st_iff ?_
   | ((with_reducible apply st_call); exact g194; exact rfl; exact hf; exact rfl)
   | ((with_reducible apply st_some); exact hx)
   | ((with_reducible apply st_some); exact hn)
   | ((with_reducible apply st_callt); assumption; exact rfl; exact rfl; assumption)
   | ((with_reducible apply st_callf); assumption; exact rfl; exact rfl; assumption)
   | ((with_reducible apply st_call); assumption; exact rfl; exact rfl; exact rfl)
   | ((with_reducible apply st_wide); exact rfl; exact rfl)
   | ((with_reducible apply st_skip); exact rfl)
   | ((with_reducible apply st_t); exact rfl; exact rfl)
   | ((with_reducible apply st_f); exact rfl; exact rfl)
   | ((with_reducible apply st_t); exact rfl; assumption)
   | ((with_reducible apply st_f); exact rfl; assumption)
   | ((with_reducible apply st_some); exact rfl)
   | exact rfl
 cases hall : ss.all (sprP vs.length)
 case true =>
  have hloop : iter (tbody 1 (S195sL0 G (vl vs) (sl ss) (.int (ss.length : Int)))) (ss.length + 4) [.int 0] = some (0, [.int (ss.length : Int), .bool false]) := by
   refine iter_to (body := tbody 1 (S195sL0 G (vl vs) (sl ss) (.int (ss.length : Int)))) (n := ss.length) (l := 0) (fun i => [.int (i : Int)]) (by omega) (fun i hi => hgo i hi ?_) ?_
   ·exact List.all_eq_true.1 hall _ (List.getElem_mem hi)
   ·refine tb rfl ?_
    have h0 : decide ((ss.length : Int) < (ss.length : Int)) = false := by simp
    unfold S195sL0
    repeat' first
     | with_reducible refine st_ift ?_
     | with_reducible refine st_iff ?_
     | ((with_reducible apply st_callt); assumption; exact rfl; exact rfl; assumption)
     | ((with_reducible apply st_callf); assumption; exact rfl; exact rfl; assumption)
     | ((with_reducible apply st_call); assumption; exact rfl; exact rfl; exact rfl)
     | ((with_reducible apply st_wide); exact rfl; exact rfl)
     | ((with_reducible apply st_skip); exact rfl)
     | ((with_reducible apply st_t); exact rfl; exact rfl)
     | ((with_reducible apply st_f); exact rfl; exact rfl)
     | ((with_reducible apply st_t); exact rfl; assumption)
     | ((with_reducible apply st_f); exact rfl; assumption)
     | ((with_reducible apply st_some); exact rfl)
     | exact rfl
  repeat' first
   | with_reducible refine st_ift ?_
   | with_reducible refine st_iff ?_
   | ((with_reducible apply st_join); exact hloop; exact rfl)
   | ((with_reducible apply st_call); exact g150; exact rfl; exact hv; exact rfl)
   | ((with_reducible apply st_some); exact hn)
   | ((with_reducible apply st_some); exact hm)
   | ((with_reducible apply st_some); exact hnw)
   | ((with_reducible apply st_some); exact hns)
   | ((with_reducible apply st_callt); assumption; exact rfl; exact rfl; assumption)
   | ((with_reducible apply st_callf); assumption; exact rfl; exact rfl; assumption)
   | ((with_reducible apply st_call); assumption; exact rfl; exact rfl; exact rfl)
   | ((with_reducible apply st_wide); exact rfl; exact rfl)
   | ((with_reducible apply st_skip); exact rfl)
   | ((with_reducible apply st_t); exact rfl; exact rfl)
   | ((with_reducible apply st_f); exact rfl; exact rfl)
   | ((with_reducible apply st_t); exact rfl; assumption)
   | ((with_reducible apply st_f); exact rfl; assumption)
   | ((with_reducible apply st_some); exact rfl)
   | exact rfl
 case false =>
  have hloop : iter (tbody 1 (S195sL0 G (vl vs) (sl ss) (.int (ss.length : Int)))) (ss.length + 4) [.int 0] = some (1, [.bool false]) := by
   refine iter_bad (body := tbody 1 (S195sL0 G (vl vs) (sl ss) (.int (ss.length : Int)))) (n := ss.length) (l := 1) (fun i => [.int (i : Int)]) (fun i => sprP vs.length (ss.getD i ⟨0, 0, 0, 0⟩) = true) (by omega) (fun i hi hg => hgo i hi ?_) (fun i hi hg => hbad i hi ?_) ?_
   ·rwa [getD_lt hi] at hg
   ·rw [getD_lt hi] at hg
    simpa using hg
   ·rw [List.all_eq_false] at hall
    obtain ⟨t, ht, hg⟩ := hall;obtain ⟨i, hi, rfl⟩ := List.getElem_of_mem ht;exact ⟨i, hi, by rwa [getD_lt hi]⟩
  repeat' first
   | with_reducible refine st_ift ?_
   | with_reducible refine st_iff ?_
   | ((with_reducible apply st_out); exact hloop)
   | ((with_reducible apply st_call); exact g150; exact rfl; exact hv; exact rfl)
   | ((with_reducible apply st_some); exact hn)
   | ((with_reducible apply st_some); exact hm)
   | ((with_reducible apply st_some); exact hnw)
   | ((with_reducible apply st_some); exact hns)
   | ((with_reducible apply st_callt); assumption; exact rfl; exact rfl; assumption)
   | ((with_reducible apply st_callf); assumption; exact rfl; exact rfl; assumption)
   | ((with_reducible apply st_call); assumption; exact rfl; exact rfl; exact rfl)
   | ((with_reducible apply st_wide); exact rfl; exact rfl)
   | ((with_reducible apply st_skip); exact rfl)
   | ((with_reducible apply st_t); exact rfl; exact rfl)
   | ((with_reducible apply st_f); exact rfl; exact rfl)
   | ((with_reducible apply st_t); exact rfl; assumption)
   | ((with_reducible apply st_f); exact rfl; assumption)
   | ((with_reducible apply st_some); exact rfl)
   | exact rfl
end Vs
