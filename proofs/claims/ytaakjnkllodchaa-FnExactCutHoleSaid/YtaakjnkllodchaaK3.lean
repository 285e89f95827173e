/-
  Lists of vectors: what laws do with them (length, copy, compare, mark, look at the marks).
-/
import Derived.Test.YtaakjnkllodchaaD
import Derived.Test.YtaakjnkllodchaaE
set_option maxHeartbeats 4000000
namespace Vs
open Go
def vec (v : V3) : D := .agg [.flt v.x, .flt v.y, .flt v.z]
def unvec : D → V3
 | .agg [.flt x, .flt y, .flt z] => ⟨x, y, z⟩
 | _ => ⟨0, 0, 0⟩
def vl (l : List V3) : D := .lst (l.map vec)
theorem unvl (l : List V3) : (l.map vec).map unvec = l := by
 rw [List.map_map]
 exact List.map_id'' (fun _ => rfl) l
theorem vl_inj {a b : List V3} (h : vl a = vl b) : a = b := by
 simp only [vl, D.lst.injEq] at h
 rw [← unvl a, h, unvl]
open Classical in
noncomputable def on1 (p : List V3 → Option (List D)) : List D → Option (List D)
 | [.lst a] => if a = (a.map unvec).map vec then p (a.map unvec) else none
 | _ => none
open Classical in
noncomputable def on2 (p : List V3 → List V3 → Option (List D)) : List D → Option (List D)
 | [.lst a, .lst b] => if a = (a.map unvec).map vec ∧ b = (b.map unvec).map vec then p (a.map unvec) (b.map unvec) else none
 | _ => none
open Classical in
noncomputable def onI (p : List V3 → Int → Option (List D)) : List D → Option (List D)
 | [.lst a, .int m] => if a = (a.map unvec).map vec then p (a.map unvec) m else none
 | _ => none
theorem on1_vl (p) (vs : List V3) : on1 p [vl vs] = p vs := by
 simp only [on1, vl]
 rw [if_pos (by rw [unvl]), unvl]
theorem on2_vl (p) (vs ws : List V3) : on2 p [vl vs, vl ws] = p vs ws := by
 simp only [on2, vl]
 rw [if_pos ⟨by rw [unvl], by rw [unvl]⟩, unvl, unvl]
theorem onI_vl (p) (vs : List V3) (m : Int) : onI p [vl vs, .int m] = p vs m := by
 simp only [onI, vl]
 rw [if_pos (by rw [unvl]), unvl]
theorem on1_inv {p} {ds rs : List D} (h : on1 p ds = some rs) : ∃ vs, ds = [vl vs] ∧ p vs = some rs := by
 unfold on1 at h
 split at h
 ·split at h
  ·rename_i hc
   exact ⟨_, by rw [vl, ← hc], h⟩
  ·cases h
 ·cases h
theorem on2_inv {p} {ds rs : List D} (h : on2 p ds = some rs) : ∃ vs ws, ds = [vl vs, vl ws] ∧ p vs ws = some rs := by
 unfold on2 at h
 split at h
 ·split at h
  ·rename_i hc
   exact ⟨_, _, by rw [vl, vl, ← hc.1, ← hc.2], h⟩
  ·cases h
 ·cases h
theorem onI_inv {p} {ds rs : List D} (h : onI p ds = some rs) : ∃ vs m, ds = [vl vs, .int m] ∧ p vs m = some rs := by
 unfold onI at h
 split at h
 ·split at h
  ·rename_i hc
   exact ⟨_, _, by rw [vl, ← hc], h⟩
  ·cases h
 ·cases h
theorem idx_vl {l : List V3} {i : Nat} (h : i < l.length) : gev none .idx [vl l, .int i] = some (vec l[i]) := by
 have h2 : (i : Int) < ((l.map vec).length : Int) := by simp; omega
 simp only [gev, gok, if_true, Prim.ev, vl]
 rw [if_pos ⟨by omega, h2⟩]
 simp [h]
theorem set_vl {l : List V3} {i : Nat} {v : V3} (h : i < l.length) : gev none .set [vl l, .int i, vec v] = some (vl (l.set i v)) := by
 have h2 : (i : Int) < ((l.map vec).length : Int) := by simp; omega
 simp only [gev, gok, if_true, Prim.ev, vl]
 rw [if_pos ⟨by omega, h2⟩]
 simp [List.map_set]
theorem len_vl {l : List V3} : gev none .len [vl l] = some (.int (l.length : Int)) := by simp [gev, gok, Prim.ev, vl]
theorem add1 {i : Int} (h0 : 0 ≤ i) (h : i < 4611686018427387904) : gev none (.iar .add .i64) [.int i, .int 1] = some (.int (i + 1)) := by
 have e : gev none (.iar .add .i64) [.int i, .int 1] = some (.int (IntKind.wrap .i64 (i + 1))) := rfl
 rw [e, wrapU h0 h]
theorem add1n {i : Nat} (h : i < 1048576) : gev none (.iar .add .i64) [.int i, .int 1] = some (.int ((i + 1 : Nat) : Int)) := add1 (by omega) (by omega)
theorem iter_upto {body : List D → Option (Nat × List D)} (s : Nat → List D) {n l : Nat} {ds : List D} (hs : ∀ i, i < n → body (s i) = some (0, s (i + 1))) (he : body (s n) = some (l + 1, ds)) :
  iter body (n + 1) (s 0) = some (l, ds) := by
 have key : ∀ (k i : Nat), i + k = n → iter body (k + 1) (s i) = some (l, ds) := by
  intro k
  induction k with
  | zero =>
   intro i hi;have : i = n := by omega
   subst this;exact iter_end he rfl
  | succ k ih =>
   intro i hi;exact iter_go (hs i (by omega)) (ih (i + 1) (by omega))
 exact key n 0 (by omega)
theorem take_step {α : Type} {l : List α} {i : Nat} (h : i < l.length) : l.take (i + 1) = l.take i ++ [l[i]] := by
 rw [List.take_add_one, List.getElem?_eq_getElem h]
 rfl
theorem mix_set {α : Type} {a b : List α} {i : Nat} (h : a.length = b.length) (hi : i < a.length) : (a.take i ++ b.drop i).set i a[i] = a.take (i + 1) ++ b.drop (i + 1) := by
 have hl : (a.take i).length = i := by simp; omega
 rw [List.set_append_right _ _ (by omega), hl, Nat.sub_self, List.drop_eq_getElem_cons (by omega : i < b.length), take_step hi, List.set_cons_zero, List.append_assoc]
 rfl
theorem mix_len {α : Type} {a b : List α} {i : Nat} (h : a.length = b.length) (hi : i ≤ b.length) : (a.take i ++ b.drop i).length = b.length := by simp; omega
theorem i2f_self (n : Int) : feq .f32 (i2f .f32 n) (i2f .f32 n) = true := by
 have e : i2f .f32 n = FloatKind.f32.nearest n := by simp [i2f, canon, i2f_notnan]
 rw [e, feq_self (i2f_notnan n)]
def marksV (m : Int) (n : Nat) : List V3 := (List.range n).map fun (i : Nat) => ⟨i2f .f32 (m + 3 * (i : Int)), i2f .f32 (m + 3 * (i : Int) + 1), i2f .f32 (m + 3 * (i : Int) + 2)⟩
theorem marksV_length (m : Int) (n : Nat) : (marksV m n).length = n := by simp [marksV]
theorem marksV_get {m : Int} {n i : Nat} (h : i < (marksV m n).length) : (marksV m n)[i] = ⟨i2f .f32 (m + 3 * i), i2f .f32 (m + 3 * i + 1), i2f .f32 (m + 3 * i + 2)⟩ := by simp [marksV]
def F120 : List D → Option (List D)
 | [.lst a, .int m] => if 0 ≤ m ∧ m ≤ 1048576 ∧ a.length < 9223372036854775808 then some [.int (if m - a.length < 0 then -1 else m - a.length)] else none
 | _ => none
noncomputable def F121 : List D → Option (List D) := on1 fun vs => if vs.length ≤ 1048576 then some [vl vs] else none
open Classical in
noncomputable def F127 : List D → Option (List D) := on2 fun vs ws => if vs = ws ∧ vs.length ≤ 1048576 then some [.bool true] else none
noncomputable def F128 : List D → Option (List D) := onI fun vs m => if vs.length ≤ 1048576 ∧ 0 ≤ m ∧ m ≤ 1099511627776 then some [.int (m + 3 * vs.length), vl (marksV m vs.length)] else none
open Classical in
noncomputable def F129 : List D → Option (List D) := onI fun vs m => if vs = marksV m vs.length ∧ vs.length ≤ 1048576 ∧ 0 ≤ m ∧ m ≤ 1099511627776 then some [.int (m + 3 * vs.length)] else none
theorem F121_vl {vs : List V3} (h : vs.length ≤ 1048576) : F121 [vl vs] = some [vl vs] := by simp [F121, on1_vl, h]
theorem F127_vl {vs : List V3} (h : vs.length ≤ 1048576) : F127 [vl vs, vl vs] = some [.bool true] := by simp [F127, on2_vl, h]
theorem F128_vl {vs : List V3} {m : Int} (h : vs.length ≤ 1048576) (h0 : 0 ≤ m) (h1 : m ≤ 1099511627776) : F128 [vl vs, .int m] = some [.int (m + 3 * vs.length), vl (marksV m vs.length)] := by
 simp only [F128, onI_vl]
 rw [if_pos ⟨h, h0, h1⟩]
theorem F129_vl {n : Nat} {m : Int} (h : n ≤ 1048576) (h0 : 0 ≤ m) (h1 : m ≤ 1099511627776) : F129 [vl (marksV m n), .int m] = some [.int (m + 3 * n)] := by
 simp only [F129, onI_vl, marksV_length]
 rw [if_pos ⟨trivial, h, h0, h1⟩]
def T120 : T :=
(oo .len [0] <|
oo (.iar .sub .i64) [1, 2] <|
oo (.icm .lss) [3, kI 0] <|
.ite 4
 (.out 0 [(.c (.int (-1)))])
 (.out 0 [3]))
def S120 (_G : Told) (_fuel : Nat) (x0 x1 : D) : Option (Nat × List D) :=
 (gev none .len [x0]).bind fun x2 =>
 (gev none (.iar .sub .i64) [x1, x2]).bind fun x3 =>
 (gev none (.icm .lss) [x3, .int 0]).bind fun x4 =>
 tif x4 (
  some (0, [(.int (-1))])) (
  some (0, [x3]))
theorem eq120 {G fuel} (x0 x1) : run G fuel T120 [x0, x1] = S120 G fuel x0 x1 := by rw [run_eq]; kernel_rfl
def T121 : T :=
(oo .len [0] <|
oo .rep [(.v 1), (.c (.agg [.flt 0, .flt 0, .flt 0]))] <|
.join 5
 (.loop [2, kI 0]
  (oo .len [0] <|
  oo (.icm .lss) [4, 5] <|
  .ite 6
   (oo .idx [0, 4] <|
   oo (.proj 0) [7] <|
   oo (.proj 1) [7] <|
   oo (.proj 2) [7] <|
   cc 16 [8, 9, 10] 3 <|
   oo .idx [3, 4] <|
   oo .mkagg [11, 12, 13] <|
   oo .set [3, 4, 15] <|
   oo (.iar .add .i64) [4, kI 1] <|
   .out 0 [16, 17])
   (.out 1 [3, 4, 4, 5, 6])))
(.out 0 [3]))
def S121L0 (G : Told) (x0 : D) : List D → Option (Nat × List D) := fun e3 =>
   (gev none .len [x0]).bind fun x5 =>
   (gev none (.icm .lss) [e3.getD 1 .undef, x5]).bind fun x6 =>
   tif x6 (
    (gev none .idx [x0, e3.getD 1 .undef]).bind fun x7 =>
    (gev none (.proj 0) [x7]).bind fun x8 =>
    (gev none (.proj 1) [x7]).bind fun x9 =>
    (gev none (.proj 2) [x7]).bind fun x10 =>
    (gcall G none 16 [x8, x9, x10] 3).bind fun e11 =>
    (gev none .idx [e3.getD 0 .undef, e3.getD 1 .undef]).bind fun _x14 =>
    (gev none .mkagg [e11.getD 0 .undef, e11.getD 1 .undef, e11.getD 2 .undef]).bind fun x15 =>
    (gev none .set [e3.getD 0 .undef, e3.getD 1 .undef, x15]).bind fun x16 =>
    (gev none (.iar .add .i64) [e3.getD 1 .undef, .int 1]).bind fun x17 =>
    some (0, [x16, x17])) (
    some (1, [e3.getD 0 .undef, e3.getD 1 .undef, e3.getD 1 .undef, x5, x6]))
def S121 (G : Told) (fuel : Nat) (x0 : D) : Option (Nat × List D) :=
 (gev none .len [x0]).bind fun x1 =>
 (gev none .rep [x1, (.agg [.flt 0, .flt 0, .flt 0])]).bind fun x2 =>
 tjoin 5 (
  iter (tbody 2 (S121L0 G x0)) fuel [x2, .int 0]) fun e3 =>
 some (0, [e3.getD 0 .undef])
theorem eq121 {G fuel} (x0) : run G fuel T121 [x0] = S121 G fuel x0 := by rw [run_eq]; kernel_rfl
def T127 : T :=
(oo .len [0] <|
oo .len [1] <|
oo (.icm .neq) [2, 3] <|
.ite 4
 (.out 0 [kN])
 (.join 4
  (.loop [kI 0]
   (oo .len [0] <|
   oo (.icm .lss) [5, 6] <|
   .ite 7
    (oo .idx [0, 5] <|
    oo (.proj 0) [8] <|
    oo (.proj 1) [8] <|
    oo (.proj 2) [8] <|
    oo .idx [1, 5] <|
    oo (.proj 0) [12] <|
    oo (.proj 1) [12] <|
    oo (.proj 2) [12] <|
    cc 40 [9, 10, 11, 13, 14, 15] 1 <|
    oo .bnot [16] <|
    .ite 17
     (.out 2 [kN])
     (oo (.iar .add .i64) [5, kI 1] <|
     .out 0 [18]))
    (.out 1 [5, 5, 6, 7])))
 (.out 0 [kT])))
def S127L0 (G : Told) (x0 : D) (x1 : D) : List D → Option (Nat × List D) := fun e5 =>
    (gev none .len [x0]).bind fun x6 =>
    (gev none (.icm .lss) [e5.getD 0 .undef, x6]).bind fun x7 =>
    tif x7 (
     (gev none .idx [x0, e5.getD 0 .undef]).bind fun x8 =>
     (gev none (.proj 0) [x8]).bind fun x9 =>
     (gev none (.proj 1) [x8]).bind fun x10 =>
     (gev none (.proj 2) [x8]).bind fun x11 =>
     (gev none .idx [x1, e5.getD 0 .undef]).bind fun x12 =>
     (gev none (.proj 0) [x12]).bind fun x13 =>
     (gev none (.proj 1) [x12]).bind fun x14 =>
     (gev none (.proj 2) [x12]).bind fun x15 =>
     (gcall G none 40 [x9, x10, x11, x13, x14, x15] 1).bind fun e16 =>
     (gev none .bnot [e16.getD 0 .undef]).bind fun x17 =>
     tif x17 (
      some (2, [.bool false])) (
      (gev none (.iar .add .i64) [e5.getD 0 .undef, .int 1]).bind fun x18 =>
      some (0, [x18]))) (
     some (1, [e5.getD 0 .undef, e5.getD 0 .undef, x6, x7]))
def S127 (G : Told) (fuel : Nat) (x0 x1 : D) : Option (Nat × List D) :=
 (gev none .len [x0]).bind fun x2 =>
 (gev none .len [x1]).bind fun x3 =>
 (gev none (.icm .neq) [x2, x3]).bind fun x4 =>
 tif x4 (
  some (0, [.bool false])) (
  tjoin 4 (
   iter (tbody 1 (S127L0 G x0 x1)) fuel [.int 0]) fun _e5 =>
  some (0, [.bool true]))
theorem eq127 {G fuel} (x0 x1) : run G fuel T127 [x0, x1] = S127 G fuel x0 x1 := by rw [run_eq]; kernel_rfl
def T128 : T :=
(.join 6
 (.loop [0, 1, kI 0]
  (oo .len [2] <|
  oo (.icm .lss) [4, 5] <|
  .ite 6
   (oo (.i2f .f32) [3] <|
   oo .idx [2, 4] <|
   oo .idx [2, 4] <|
   oo (.proj 0) [9] <|
   oo (.proj 1) [9] <|
   oo (.proj 2) [9] <|
   oo .mkagg [7, 11, 12] <|
   oo .set [2, 4, 13] <|
   oo (.iar .add .i64) [3, kI 1] <|
   oo (.i2f .f32) [15] <|
   oo .idx [14, 4] <|
   oo .idx [14, 4] <|
   oo (.proj 0) [18] <|
   oo (.proj 1) [18] <|
   oo (.proj 2) [18] <|
   oo .mkagg [19, 16, 21] <|
   oo .set [14, 4, 22] <|
   oo (.iar .add .i64) [15, kI 1] <|
   oo (.i2f .f32) [24] <|
   oo .idx [23, 4] <|
   oo .idx [23, 4] <|
   oo (.proj 0) [27] <|
   oo (.proj 1) [27] <|
   oo (.proj 2) [27] <|
   oo .mkagg [28, 29, 25] <|
   oo .set [23, 4, 31] <|
   oo (.iar .add .i64) [24, kI 1] <|
   oo (.iar .add .i64) [4, kI 1] <|
   .out 0 [32, 33, 34])
   (.out 1 [2, 3, 4, 4, 5, 6])))
(.out 0 [3, 2]))
def S128L0 (_G : Told) : List D → Option (Nat × List D) := fun e2 =>
   (gev none .len [e2.getD 0 .undef]).bind fun x5 =>
   (gev none (.icm .lss) [e2.getD 2 .undef, x5]).bind fun x6 =>
   tif x6 (
    (gev none (.i2f .f32) [e2.getD 1 .undef]).bind fun x7 =>
    (gev none .idx [e2.getD 0 .undef, e2.getD 2 .undef]).bind fun _x8 =>
    (gev none .idx [e2.getD 0 .undef, e2.getD 2 .undef]).bind fun x9 =>
    (gev none (.proj 0) [x9]).bind fun _x10 =>
    (gev none (.proj 1) [x9]).bind fun x11 =>
    (gev none (.proj 2) [x9]).bind fun x12 =>
    (gev none .mkagg [x7, x11, x12]).bind fun x13 =>
    (gev none .set [e2.getD 0 .undef, e2.getD 2 .undef, x13]).bind fun x14 =>
    (gev none (.iar .add .i64) [e2.getD 1 .undef, .int 1]).bind fun x15 =>
    (gev none (.i2f .f32) [x15]).bind fun x16 =>
    (gev none .idx [x14, e2.getD 2 .undef]).bind fun _x17 =>
    (gev none .idx [x14, e2.getD 2 .undef]).bind fun x18 =>
    (gev none (.proj 0) [x18]).bind fun x19 =>
    (gev none (.proj 1) [x18]).bind fun _x20 =>
    (gev none (.proj 2) [x18]).bind fun x21 =>
    (gev none .mkagg [x19, x16, x21]).bind fun x22 =>
    (gev none .set [x14, e2.getD 2 .undef, x22]).bind fun x23 =>
    (gev none (.iar .add .i64) [x15, .int 1]).bind fun x24 =>
    (gev none (.i2f .f32) [x24]).bind fun x25 =>
    (gev none .idx [x23, e2.getD 2 .undef]).bind fun _x26 =>
    (gev none .idx [x23, e2.getD 2 .undef]).bind fun x27 =>
    (gev none (.proj 0) [x27]).bind fun x28 =>
    (gev none (.proj 1) [x27]).bind fun x29 =>
    (gev none (.proj 2) [x27]).bind fun _x30 =>
    (gev none .mkagg [x28, x29, x25]).bind fun x31 =>
    (gev none .set [x23, e2.getD 2 .undef, x31]).bind fun x32 =>
    (gev none (.iar .add .i64) [x24, .int 1]).bind fun x33 =>
    (gev none (.iar .add .i64) [e2.getD 2 .undef, .int 1]).bind fun x34 =>
    some (0, [x32, x33, x34])) (
    some (1, [e2.getD 0 .undef, e2.getD 1 .undef, e2.getD 2 .undef, e2.getD 2 .undef, x5, x6]))
def S128 (G : Told) (fuel : Nat) (x0 x1 : D) : Option (Nat × List D) :=
 tjoin 6 (
  iter (tbody 3 (S128L0 G )) fuel [x0, x1, .int 0]) fun e2 =>
 some (0, [e2.getD 1 .undef, e2.getD 0 .undef])
theorem eq128 {G fuel} (x0 x1) : run G fuel T128 [x0, x1] = S128 G fuel x0 x1 := by rw [run_eq]; kernel_rfl
def T129 : T :=
(.join 5
 (.loop [1, kI 0]
  (oo .len [0] <|
  oo (.icm .lss) [3, 4] <|
  .ite 5
   (oo .idx [0, 3] <|
   oo (.proj 0) [6] <|
   oo (.proj 1) [6] <|
   oo (.proj 2) [6] <|
   oo (.i2f .f32) [2] <|
   oo (.fcm .neq .f32) [7, 10] <|
   .ite 11
    (.out 2 [(.c (.int (-1)))])
    (oo (.iar .add .i64) [2, kI 1] <|
    oo .idx [0, 3] <|
    oo (.proj 0) [13] <|
    oo (.proj 1) [13] <|
    oo (.proj 2) [13] <|
    oo (.i2f .f32) [12] <|
    oo (.fcm .neq .f32) [15, 17] <|
    .ite 18
     (.out 2 [(.c (.int (-1)))])
     (oo (.iar .add .i64) [12, kI 1] <|
     oo .idx [0, 3] <|
     oo (.proj 0) [20] <|
     oo (.proj 1) [20] <|
     oo (.proj 2) [20] <|
     oo (.i2f .f32) [19] <|
     oo (.fcm .neq .f32) [23, 24] <|
     .ite 25
      (.out 2 [(.c (.int (-1)))])
      (oo (.iar .add .i64) [19, kI 1] <|
      oo (.iar .add .i64) [3, kI 1] <|
      .out 0 [26, 27]))))
   (.out 1 [2, 3, 3, 4, 5])))
(.out 0 [2]))
def S129L0 (_G : Told) (x0 : D) : List D → Option (Nat × List D) := fun e2 =>
   (gev none .len [x0]).bind fun x4 =>
   (gev none (.icm .lss) [e2.getD 1 .undef, x4]).bind fun x5 =>
   tif x5 (
    (gev none .idx [x0, e2.getD 1 .undef]).bind fun x6 =>
    (gev none (.proj 0) [x6]).bind fun x7 =>
    (gev none (.proj 1) [x6]).bind fun _x8 =>
    (gev none (.proj 2) [x6]).bind fun _x9 =>
    (gev none (.i2f .f32) [e2.getD 0 .undef]).bind fun x10 =>
    (gev none (.fcm .neq .f32) [x7, x10]).bind fun x11 =>
    tif x11 (
     some (2, [(.int (-1))])) (
     (gev none (.iar .add .i64) [e2.getD 0 .undef, .int 1]).bind fun x12 =>
     (gev none .idx [x0, e2.getD 1 .undef]).bind fun x13 =>
     (gev none (.proj 0) [x13]).bind fun _x14 =>
     (gev none (.proj 1) [x13]).bind fun x15 =>
     (gev none (.proj 2) [x13]).bind fun _x16 =>
     (gev none (.i2f .f32) [x12]).bind fun x17 =>
     (gev none (.fcm .neq .f32) [x15, x17]).bind fun x18 =>
     tif x18 (
      some (2, [(.int (-1))])) (
      (gev none (.iar .add .i64) [x12, .int 1]).bind fun x19 =>
      (gev none .idx [x0, e2.getD 1 .undef]).bind fun x20 =>
      (gev none (.proj 0) [x20]).bind fun _x21 =>
      (gev none (.proj 1) [x20]).bind fun _x22 =>
      (gev none (.proj 2) [x20]).bind fun x23 =>
      (gev none (.i2f .f32) [x19]).bind fun x24 =>
      (gev none (.fcm .neq .f32) [x23, x24]).bind fun x25 =>
      tif x25 (
       some (2, [(.int (-1))])) (
       (gev none (.iar .add .i64) [x19, .int 1]).bind fun x26 =>
       (gev none (.iar .add .i64) [e2.getD 1 .undef, .int 1]).bind fun x27 =>
       some (0, [x26, x27]))))) (
    some (1, [e2.getD 0 .undef, e2.getD 1 .undef, e2.getD 1 .undef, x4, x5]))
def S129 (G : Told) (fuel : Nat) (x0 x1 : D) : Option (Nat × List D) :=
 tjoin 5 (
  iter (tbody 2 (S129L0 G x0)) fuel [x1, .int 0]) fun e2 =>
 some (0, [e2.getD 0 .undef])
theorem eq129 {G fuel} (x0 x1) : run G fuel T129 [x0, x1] = S129 G fuel x0 x1 := by rw [run_eq]; kernel_rfl
attribute [local irreducible] tif tjoin IntKind.wrap feq fadd fmul fsub fdiv fgt i2f sameP wide eqV vl

theorem wrap_sub {m n : Int} (h0 : 0 ≤ m) (h1 : m ≤ 1048576) (h2 : 0 ≤ n) (h3 : n < 9223372036854775808) : IntKind.wrap .i64 (m - n) = m - n := by
 unfold IntKind.wrap
 simp only [IntKind.bits, IntKind.signed]
 by_cases hn : 0 ≤ m - n
 ·have e : (m - n) % 2 ^ 64 = m - n := Int.emod_eq_of_lt hn (by omega)
  simp only [e];split
  ·rename_i h
   simp at h;omega
  ·rfl
 ·have e : (m - n) % 2 ^ 64 = m - n + 2 ^ 64 := by rw [← Int.add_emod_right, Int.emod_eq_of_lt (by omega) (by omega)]
  simp only [e];split
  ·omega
  ·rename_i h
   simp at h;omega
theorem run120 {G : Told} : Runs G F120 T120 := by
 intro ds rs h
 unfold F120 at h
 split at h
 ·rename_i a m
  split at h
  ·rename_i hc
   obtain ⟨h0, h1, h2⟩ := hc;simp only [Option.some.injEq] at h;subst h;refine ⟨0, ?_⟩;rw [eq120];unfold S120;have hw : gev none (.iar .sub .i64) [.int m, .int a.length] = some (.int (m - a.length)) := by have e : gev none (.iar .sub .i64) [.int m, .int a.length] = some (.int (IntKind.wrap .i64 (m - a.length))) := rfl;rw [e, wrap_sub h0 h1 (by omega) (by omega)]
   by_cases hn : m - a.length < 0
   ·have hd : decide (m - (a.length : Int) < 0) = true := by simpa using hn
    rw [if_pos hn]
    repeat' first
     | (apply st_some; exact hw)
     | (apply st_t; exact rfl; assumption)
     | (apply st_some; exact rfl)
     | refine st_ift ?_
     | exact rfl
   ·have hd : decide (m - (a.length : Int) < 0) = false := by simpa using hn
    rw [if_neg hn]
    repeat' first
     | (apply st_some; exact hw)
     | (apply st_f; exact rfl; assumption)
     | (apply st_some; exact rfl)
     | refine st_iff ?_
     | exact rfl
  ·cases h
 ·cases h
theorem run121 {G : Told} (g16 : G 16 = F16) : Runs G F121 T121 := by
 intro ds rs h
 obtain ⟨vs, rfl, hp⟩ := on1_inv h
 replace h := hp
 clear hp
 split at h
 ·rename_i hc
  simp only [Option.some.injEq] at h;subst h;refine ⟨vs.length + 1, ?_⟩;rw [eq121];unfold S121;have hr : gev none .rep [.int (vs.length : Int), .agg [.flt 0, .flt 0, .flt 0]] = some (vl (List.replicate vs.length ⟨0, 0, 0⟩)) := by
   simp only [gev, gok, if_true, Prim.ev, vl];rw [if_pos (by omega)]
   simp [vec]
  have hl : (List.replicate vs.length (⟨0, 0, 0⟩ : V3)).length = vs.length := by simp
  generalize List.replicate vs.length (⟨0, 0, 0⟩ : V3) = z at hr hl;have hloop : iter (tbody 2 (S121L0 G (vl vs))) (vs.length + 1) [vl z, .int 0] = some (0, [vl vs, .int (vs.length : Int), .int (vs.length : Int), .int (vs.length : Int), .bool false]) := by
   have h1 := iter_upto (body := tbody 2 (S121L0 G (vl vs))) (n := vs.length) (l := 0) (ds := [vl vs, .int (vs.length : Int), .int (vs.length : Int), .int (vs.length : Int), .bool false])
    (fun i => [vl (vs.take i ++ z.drop i), .int (i : Int)]) ?_ ?_
   ·simpa using h1
   ·intro i hi
    refine tb rfl ?_;have h0 : decide ((i : Int) < (vs.length : Int)) = true := by simpa using hi
    have hx := idx_vl hi;have hml := mix_len (a := vs) (b := z) (i := i) hl.symm (by omega)
    have hy := idx_vl (l := vs.take i ++ z.drop i) (i := i) (by omega)
    have hs := set_vl (l := vs.take i ++ z.drop i) (i := i) (v := vs[i]) (by omega)
    rw [mix_set hl.symm hi] at hs;have ha := add1n (i := i) (by omega)
    have hn := len_vl (l := vs);unfold S121L0
    repeat' first
     | (apply st_call; exact g16; exact rfl; exact rfl; exact rfl)
     | (apply st_some; exact hx)
     | (apply st_some; exact hy)
     | (apply st_some; exact hs)
     | (apply st_some; exact ha)
     | (apply st_some; exact hn)
     | (apply st_t; exact rfl; assumption)
     | (apply st_some; exact rfl)
     | refine st_ift ?_
     | exact rfl
   ·refine tb rfl ?_
    have h0 : decide ((vs.length : Int) < (vs.length : Int)) = false := by simp
    have hn := len_vl (l := vs);have e : vs.take vs.length ++ z.drop vs.length = vs := by rw [← hl]; simp [hl]
    rw [e];unfold S121L0
    repeat' first
     | (apply st_some; exact hn)
     | (apply st_f; exact rfl; assumption)
     | refine st_iff ?_
     | exact rfl
  have hn := len_vl (l := vs)
  repeat' first
   | (apply st_join; exact hloop; exact rfl)
   | (apply st_some; exact hn)
   | (apply st_some; exact hr)
   | exact rfl
 ·cases h
theorem run127 {G : Told} (g40 : G 40 = F40) : Runs G F127 T127 := by
 intro ds rs h
 obtain ⟨vs, ws, rfl, hp⟩ := on2_inv h
 replace h := hp
 clear hp
 split at h
 ·rename_i hc
  obtain ⟨rfl, hc⟩ := hc;simp only [Option.some.injEq] at h;subst h;refine ⟨vs.length + 1, ?_⟩;rw [eq127];unfold S127;have hn := len_vl (l := vs);have hloop : iter (tbody 1 (S127L0 G (vl vs) (vl vs))) (vs.length + 1) [.int 0] = some (0, [.int (vs.length : Int), .int (vs.length : Int), .int (vs.length : Int), .bool false]) := by
   refine iter_upto (body := tbody 1 (S127L0 G (vl vs) (vl vs))) (n := vs.length) (l := 0) (fun i => [.int (i : Int)]) ?_ ?_
   ·intro i hi
    refine tb rfl ?_;have h0 : decide ((i : Int) < (vs.length : Int)) = true := by simpa using hi
    have hx := idx_vl hi;have ha := add1n (i := i) (by omega)
    have he : F40 [.flt vs[i].x, .flt vs[i].y, .flt vs[i].z, .flt vs[i].x, .flt vs[i].y, .flt vs[i].z] = some [.bool true] := by simp only [F40];rw [show (⟨vs[i].x, vs[i].y, vs[i].z⟩ : V3) = vs[i] from rfl, eqV_self]
    unfold S127L0
    repeat' first
     | (apply st_call; exact g40; exact rfl; exact he; exact rfl)
     | (apply st_some; exact hx)
     | (apply st_some; exact ha)
     | (apply st_some; exact hn)
     | (apply st_f; exact rfl; exact rfl)
     | (apply st_t; exact rfl; assumption)
     | (apply st_some; exact rfl)
     | refine st_ift ?_
     | refine st_iff ?_
     | exact rfl
   ·refine tb rfl ?_
    have h0 : decide ((vs.length : Int) < (vs.length : Int)) = false := by simp
    unfold S127L0
    repeat' first
     | (apply st_some; exact hn)
     | (apply st_f; exact rfl; assumption)
     | refine st_iff ?_
     | exact rfl
  have hne : ((vs.length : Int) != (vs.length : Int)) = false := by simp
  repeat' first
   | (apply st_join; exact hloop; exact rfl)
   | (apply st_some; exact hn)
   | (apply st_f; exact rfl; assumption)
   | refine st_iff ?_
   | exact rfl
 ·cases h
theorem run128 {G : Told} : Runs G F128 T128 := by
 intro ds rs h
 obtain ⟨vs, m, rfl, hp⟩ := onI_inv h
 replace h := hp
 clear hp
 split at h
 ·rename_i hc
  obtain ⟨hc, hm0, hm1⟩ := hc;simp only [Option.some.injEq] at h;subst h;refine ⟨vs.length + 1, ?_⟩;rw [eq128];unfold S128;have hlm : (marksV m vs.length).length = vs.length := marksV_length _ _;have hloop : iter (tbody 3 (S128L0 G)) (vs.length + 1) [vl vs, .int m, .int 0] = some (0, [vl (marksV m vs.length), .int (m + 3 * vs.length), .int (vs.length : Int), .int (vs.length : Int), .int (vs.length : Int), .bool false]) := by
   have h1 := iter_upto (body := tbody 3 (S128L0 G)) (n := vs.length) (l := 0) (ds := [vl (marksV m vs.length), .int (m + 3 * vs.length), .int (vs.length : Int), .int (vs.length : Int), .int (vs.length : Int), .bool false])
    (fun i => [vl ((marksV m vs.length).take i ++ vs.drop i), .int (m + 3 * i), .int (i : Int)]) ?_ ?_
   ·simpa using h1
   ·intro i hi
    refine tb rfl ?_;have hml := mix_len (a := marksV m vs.length) (b := vs) (i := i) hlm (by omega)
    have hms := mix_set (a := marksV m vs.length) (b := vs) (i := i) hlm (by omega)
    rw [marksV_get] at hms;have hn := len_vl (l := (marksV m vs.length).take i ++ vs.drop i);rw [hml] at hn;have h0 : decide ((i : Int) < (vs.length : Int)) = true := by simpa using hi
    generalize (marksV m vs.length).take i ++ vs.drop i = l at hml hms hn;have hx := idx_vl (l := l) (i := i) (by omega)
    have hs := set_vl (l := l) (i := i) (v := ⟨i2f .f32 (m + 3 * i), l[i].y, l[i].z⟩) (by omega)
    have hx2 := idx_vl (l := l.set i ⟨i2f .f32 (m + 3 * i), l[i].y, l[i].z⟩) (i := i) (by simp; omega)
    rw [List.getElem_set_self] at hx2;have hs2 := set_vl (l := l.set i ⟨i2f .f32 (m + 3 * i), l[i].y, l[i].z⟩) (i := i) (v := ⟨i2f .f32 (m + 3 * i), i2f .f32 (m + 3 * i + 1), l[i].z⟩) (by simp; omega)
    rw [List.set_set] at hs2;have hx3 := idx_vl (l := l.set i ⟨i2f .f32 (m + 3 * i), i2f .f32 (m + 3 * i + 1), l[i].z⟩) (i := i) (by simp; omega)
    rw [List.getElem_set_self] at hx3;have hs3 := set_vl (l := l.set i ⟨i2f .f32 (m + 3 * i), i2f .f32 (m + 3 * i + 1), l[i].z⟩) (i := i) (v := ⟨i2f .f32 (m + 3 * i), i2f .f32 (m + 3 * i + 1), i2f .f32 (m + 3 * i + 2)⟩) (by simp; omega)
    rw [List.set_set, hms] at hs3;have ha := add1n (i := i) (by omega)
    have ha1 := add1 (i := m + 3 * i) (by omega) (by omega)
    have ha2 := add1 (i := m + 3 * i + 1) (by omega) (by omega)
    rw [show m + 3 * (i : Int) + 1 + 1 = m + 3 * i + 2 from by omega] at ha2
    have ha3 := add1 (i := m + 3 * i + 2) (by omega) (by omega)
    rw [show m + 3 * (i : Int) + 2 + 1 = m + 3 * ((i + 1 : Nat) : Int) from by omega] at ha3
    unfold S128L0
    repeat' first
     | (apply st_some; exact hx)
     | (apply st_some; exact hx2)
     | (apply st_some; exact hx3)
     | (apply st_some; exact hs)
     | (apply st_some; exact hs2)
     | (apply st_some; exact hs3)
     | (apply st_some; exact ha)
     | (apply st_some; exact ha1)
     | (apply st_some; exact ha2)
     | (apply st_some; exact ha3)
     | (apply st_some; exact hn)
     | (apply st_t; exact rfl; assumption)
     | (apply st_some; exact rfl)
     | refine st_ift ?_
     | exact rfl
   ·refine tb rfl ?_
    have h0 : decide ((vs.length : Int) < (vs.length : Int)) = false := by simp
    have e : (marksV m vs.length).take vs.length ++ vs.drop vs.length = marksV m vs.length := by simp [List.take_of_length_le, hlm]
    rw [e];have hn := len_vl (l := marksV m vs.length);rw [hlm] at hn;unfold S128L0
    repeat' first
     | (apply st_some; exact hn)
     | (apply st_f; exact rfl; assumption)
     | refine st_iff ?_
     | exact rfl
  refine st_join hloop rfl ?_;rfl
 ·cases h
theorem run129 {G : Told} : Runs G F129 T129 := by
 intro ds rs h
 obtain ⟨vs, m, rfl, hp⟩ := onI_inv h
 replace h := hp
 clear hp
 split at h
 ·rename_i hc
  obtain ⟨hv, hc, hm0, hm1⟩ := hc;simp only [Option.some.injEq] at h;subst h;refine ⟨vs.length + 1, ?_⟩;rw [eq129];unfold S129;have hn := len_vl (l := vs);have hloop : iter (tbody 2 (S129L0 G (vl vs))) (vs.length + 1) [.int m, .int 0] = some (0, [.int (m + 3 * vs.length), .int (vs.length : Int), .int (vs.length : Int), .int (vs.length : Int), .bool false]) := by
   have h1 := iter_upto (body := tbody 2 (S129L0 G (vl vs))) (n := vs.length) (l := 0) (ds := [.int (m + 3 * vs.length), .int (vs.length : Int), .int (vs.length : Int), .int (vs.length : Int), .bool false])
    (fun i => [.int (m + 3 * i), .int (i : Int)]) ?_ ?_
   ·simpa using h1
   ·intro i hi
    refine tb rfl ?_;have h0 : decide ((i : Int) < (vs.length : Int)) = true := by simpa using hi
    have hg : vs[i] = ⟨i2f .f32 (m + 3 * i), i2f .f32 (m + 3 * i + 1), i2f .f32 (m + 3 * i + 2)⟩ := by rw [List.getElem_of_eq hv, marksV_get]
    have hx := idx_vl hi;rw [hg] at hx;have hf : ∀ n, (!feq .f32 (i2f .f32 n) (i2f .f32 n)) = false := fun n => by rw [i2f_self n]; rfl
    have hf1 := hf (m + 3 * i);have hf2 := hf (m + 3 * i + 1);have hf3 := hf (m + 3 * i + 2);have ha := add1n (i := i) (by omega)
    have ha1 := add1 (i := m + 3 * i) (by omega) (by omega)
    have ha2 := add1 (i := m + 3 * i + 1) (by omega) (by omega)
    rw [show m + 3 * (i : Int) + 1 + 1 = m + 3 * i + 2 from by omega] at ha2
    have ha3 := add1 (i := m + 3 * i + 2) (by omega) (by omega)
    rw [show m + 3 * (i : Int) + 2 + 1 = m + 3 * ((i + 1 : Nat) : Int) from by omega] at ha3
    unfold S129L0
    repeat' first
     | (apply st_some; exact hx)
     | (apply st_some; exact ha)
     | (apply st_some; exact ha1)
     | (apply st_some; exact ha2)
     | (apply st_some; exact ha3)
     | (apply st_some; exact hn)
     | (apply st_t; exact rfl; assumption)
     | (apply st_f; exact rfl; assumption)
     | (apply st_some; exact rfl)
     | refine st_ift ?_
     | refine st_iff ?_
     | exact rfl
   ·refine tb rfl ?_
    have h0 : decide ((vs.length : Int) < (vs.length : Int)) = false := by simp
    unfold S129L0
    repeat' first
     | (apply st_some; exact hn)
     | (apply st_f; exact rfl; assumption)
     | refine st_iff ?_
     | exact rfl
  refine st_join hloop rfl ?_;rfl
 ·cases h
theorem vec_of_cells {vs : List Value} {ds : List D} (h : RdCs RdB [f1, f1, f1] vs ds) : ∃ v : V3, D.agg ds = vec v := by
 obtain ⟨_, hd⟩ := h.length
 match ds, hd, h with
 | [a, b, c], _, h =>
  obtain ⟨_, _, _, e1, _, _, h1⟩ := h.get (j := 0) rfl;obtain ⟨_, _, _, e2, _, _, h2⟩ := h.get (j := 1) rfl;obtain ⟨_, _, _, e3, _, _, h3⟩ := h.get (j := 2) rfl
  cases e1
  cases e2
  cases e3
  exact ⟨⟨_, _, _⟩, by rw [h1, h2, h3]; rfl⟩
theorem vl_of_rows : ∀ {ls : List (List D)} {xs : List Value}, RdRow RdB [f1, f1, f1] xs ls → ∃ vs : List V3, ls.map (unflat true) = vs.map vec
 | [], _, _ => ⟨[], rfl⟩
 | _ :: _, _, ⟨_, _, _, a, b⟩ => by obtain ⟨v, hv⟩ := vec_of_cells a;obtain ⟨vs, hs⟩ := vl_of_rows b;exact ⟨v :: vs, by simp [unflat, hv, hs]⟩
end Vs
