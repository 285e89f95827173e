/-
  How thick triangles are: ThicknessOf, ThinTriangles.
-/
import Derived.Test.YtfpmhmngebnphaaK8
namespace Vs
open Go

def crossV (a b : V3) : V3 :=
  ⟨fsub .f32 (fmul .f32 a.y b.z) (fmul .f32 a.z b.y), fsub .f32 (fmul .f32 a.z b.x) (fmul .f32 a.x b.z), fsub .f32 (fmul .f32 a.x b.y) (fmul .f32 a.y b.x)⟩
def normT (a b c : V3) : V3 := crossV (lessV b a) (lessV c a)
def longV (v : V3) : Nat := longP v.x v.y v.z
def thickP (a b c : V3) : Nat :=
  fdiv .f32 (fmul .f32 1079882711 (longV (normT a b c))) (fadd .f32 (fadd .f32 (dotV (lessV b a) (lessV b a)) (dotV (lessV c b) (lessV c b))) (dotV (lessV a c) (lessV a c)))
/-- A place by its number. -/
def plc (vs : List V3) (p : Int) : V3 := vs.getD p.toNat ⟨0, 0, 0⟩
/-- The corners of a triangle whose places are there. -/
def corner (vs : List V3) : List Int → Option (V3 × V3 × V3)
  | [p, q, r] => if inr vs.length p && inr vs.length q && inr vs.length r then some (plc vs p, plc vs q, plc vs r) else none
  | _ => none
theorem corner_inv {vs : List V3} {t : List Int} {a b c : V3} (h : corner vs t = some (a, b, c)) : ∃ p q r, t = [p, q, r] ∧ inr vs.length p = true ∧ inr vs.length q = true ∧ inr vs.length r = true ∧ a = plc vs p ∧ b = plc vs q ∧ c = plc vs r := by
  unfold corner at h
  split at h
  · rename_i p q r
    split at h
    · rename_i hc
      simp only [Bool.and_eq_true] at hc
      simp only [Option.some.injEq, Prod.mk.injEq] at h
      exact ⟨p, q, r, rfl, hc.1.1, hc.1.2, hc.2, h.1.symm, h.2.1.symm, h.2.2.symm⟩
    · cases h
  · cases h
theorem corner_ok {vs : List V3} {ts : List (List Int)} {i : Nat} (h : validP vs.length ts = true) (hi : i < ts.length) : ∃ a b c, corner vs ts[i] = some (a, b, c) := by
  unfold validP at h
  simp only [Bool.and_eq_true] at h
  have ht := List.all_eq_true.1 h.2 _ (List.getElem_mem hi)
  generalize ts[i] = t at ht
  unfold triP at ht
  split at ht
  · rename_i p q r
    simp only [Bool.and_eq_true, List.all_cons, List.all_nil, Bool.and_true] at ht
    obtain ⟨_, h1, h2, h3⟩ := ht
    refine ⟨plc vs p, plc vs q, plc vs r, ?_⟩
    simp only [corner]
    rw [if_pos (by simp [h1, h2, h3])]
  · cases ht
theorem idx_plc {vs : List V3} {p : Int} (h : inr vs.length p = true) : gev none .idx [vl vs, .int p] = some (vec (plc vs p)) := by
  unfold inr at h
  simp only [Bool.and_eq_true, decide_eq_true_eq] at h
  have e : p = (p.toNat : Int) := by omega
  have hl : p.toNat < vs.length := by omega
  have := idx_vl hl
  rw [← e] at this
  rw [this]
  unfold plc
  rw [getD_lt hl]
noncomputable def F156 : List D → Option (List D)
  | [a, b, .int i] => (dV a).bind fun vs => (dT b).bind fun ts => if szM vs ts ≤ 1048576 then some [.bool (validP vs.length ts && inr ts.length i)] else none
  | _ => none
def F158 : List D → Option (List D)
  | [.flt a, .flt b, .flt c, .flt x, .flt y, .flt z] => some [.flt (crossV ⟨a, b, c⟩ ⟨x, y, z⟩).x, .flt (crossV ⟨a, b, c⟩ ⟨x, y, z⟩).y, .flt (crossV ⟨a, b, c⟩ ⟨x, y, z⟩).z]
  | _ => none
def nds (v : V3) : List D := [.flt v.x, .flt v.y, .flt v.z]
noncomputable def F160 : List D → Option (List D)
  | [a, _, c] => (dV a).bind fun vs => (dI c).bind fun t => (corner vs t).map fun p => nds (normT p.1 p.2.1 p.2.2)
  | _ => none
noncomputable def F159 : List D → Option (List D)
  | [a, b, .int i] => (dV a).bind fun vs => (dT b).bind fun ts => if 0 ≤ i ∧ i < ts.length then (corner vs (ts.getD i.toNat [])).map fun p => nds (normT p.1 p.2.1 p.2.2) else none
  | _ => none
noncomputable def F162 : List D → Option (List D)
  | [a, _, c] => (dV a).bind fun vs => (dI c).bind fun t => (corner vs t).map fun p => [.flt (thickP p.1 p.2.1 p.2.2)]
  | _ => none
noncomputable def F161 : List D → Option (List D)
  | [a, b, .int i] => (dV a).bind fun vs => (dT b).bind fun ts => if 0 ≤ i ∧ i < ts.length then (corner vs (ts.getD i.toNat [])).map fun p => [.flt (thickP p.1 p.2.1 p.2.2)] else none
  | _ => none
/-- How thick a triangle is. -/
def thk (vs : List V3) (ts : List (List Int)) (i : Nat) : Nat := match corner vs (ts.getD i []) with | some p => thickP p.1 p.2.1 p.2.2 | none => 0
noncomputable def F163 : List D → Option (List D)
  | [a, b, .int i] => (dV a).bind fun vs => (dT b).bind fun ts => if szM vs ts ≤ 1048576 then some (if (validP vs.length ts && inr ts.length i) = true then [.flt (thk vs ts i.toNat), .bool true] else [.flt 0, .bool false]) else none
  | _ => none
open Classical in
noncomputable def F164 : List D → Option (List D)
  | [a, b, .int _] => (dV a).bind fun vs => (dT b).bind fun ts => if lawM vs ts then some [.bool true] else none
  | _ => none
/-- The numbers of the thin triangles, of the first n. -/
def thinN (vs : List V3) (ts : List (List Int)) (k : Nat) : Nat → List Int
  | 0 => []
  | n + 1 => if flt .f32 (thk vs ts n) k = true then thinN vs ts k n ++ [(n : Int)] else thinN vs ts k n
theorem thinN_len (vs : List V3) (ts : List (List Int)) (k : Nat) : ∀ n, (thinN vs ts k n).length ≤ n
  | 0 => by simp [thinN]
  | n + 1 => by
    have := thinN_len vs ts k n
    simp only [thinN]
    split
    · simp only [List.length_append, List.length_cons, List.length_nil]
      omega
    · omega
noncomputable def F165 : List D → Option (List D)
  | [a, b, .flt k] => (dV a).bind fun vs => (dT b).bind fun ts => if szM vs ts ≤ 1048576 then some (if validP vs.length ts = true then [il (thinN vs ts k ts.length), .bool true] else [il [], .bool false]) else none
  | _ => none
open Classical in
noncomputable def F166 : List D → Option (List D)
  | [a, b, .flt _] => (dV a).bind fun vs => (dT b).bind fun ts => if lawM vs ts then some [.bool true] else none
  | _ => none
theorem F156_m {vs : List V3} {ts : List (List Int)} {i : Int} (h : szM vs ts ≤ 1048576) : F156 [vl vs, tl ts, .int i] = some [.bool (validP vs.length ts && inr ts.length i)] := by
  simp only [F156, dV_vl, dT_tl, Option.bind_some]
  rw [if_pos h]
theorem F163_m {vs : List V3} {ts : List (List Int)} {i : Int} (h : szM vs ts ≤ 1048576) : F163 [vl vs, tl ts, .int i] = some (if (validP vs.length ts && inr ts.length i) = true then [.flt (thk vs ts i.toNat), .bool true] else [.flt 0, .bool false]) := by
  simp only [F163, dV_vl, dT_tl, Option.bind_some]
  rw [if_pos h]
theorem F165_m {vs : List V3} {ts : List (List Int)} {k : Nat} (h : szM vs ts ≤ 1048576) : F165 [vl vs, tl ts, .flt k] = some (if validP vs.length ts = true then [il (thinN vs ts k ts.length), .bool true] else [il [], .bool false]) := by
  simp only [F165, dV_vl, dT_tl, Option.bind_some]
  rw [if_pos h]
theorem thk_eq {vs : List V3} {ts : List (List Int)} {i : Nat} (hi : i < ts.length) {a b c : V3} (h : corner vs ts[i] = some (a, b, c)) : thk vs ts i = thickP a b c := by
  unfold thk
  rw [getD_lt hi, h]
theorem F162_m {vs : List V3} {t : List Int} {b : D} {p q r : V3} (h : corner vs t = some (p, q, r)) : F162 [vl vs, b, il t] = some [.flt (thickP p q r)] := by
  simp only [F162, dV_vl, dI_il, Option.bind_some, h, Option.map_some]
theorem F160_m {vs : List V3} {t : List Int} {b : D} {p q r : V3} (h : corner vs t = some (p, q, r)) : F160 [vl vs, b, il t] = some (nds (normT p q r)) := by
  simp only [F160, dV_vl, dI_il, Option.bind_some, h, Option.map_some]
theorem F161_m {vs : List V3} {ts : List (List Int)} {i : Nat} {p q r : V3} (hi : i < ts.length) (h : corner vs ts[i] = some (p, q, r)) : F161 [vl vs, tl ts, .int i] = some [.flt (thickP p q r)] := by
  simp only [F161, dV_vl, dT_tl, Option.bind_some]
  rw [if_pos ⟨by omega, by omega⟩, Int.toNat_natCast, getD_lt hi, h]
  rfl
theorem F159_m {vs : List V3} {ts : List (List Int)} {i : Nat} {p q r : V3} (hi : i < ts.length) (h : corner vs ts[i] = some (p, q, r)) : F159 [vl vs, tl ts, .int i] = some (nds (normT p q r)) := by
  simp only [F159, dV_vl, dT_tl, Option.bind_some]
  rw [if_pos ⟨by omega, by omega⟩, Int.toNat_natCast, getD_lt hi, h]
  rfl

def T156 : T :=
(.call none 150 [(.v 0), (.v 1)] 1 <|
(.op (some ((.v 3), true)) .id [(.v 2)] <|
(.op (some ((.v 3), true)) .id [(.v 1)] <|
(.op (some ((.v 3), true)) .len [(.v 5)] <|
(.op (some ((.v 3), true)) (.iar .sub .i64) [(.v 6), (.c (.int 1))] <|
(.call (some ((.v 3), true)) 19 [(.v 4), (.c (.int 0)), (.v 7)] 1 <|
(.op none .pick [(.v 3), (.v 8), (.c (.bool false))] <|
(.out 0 [(.v 9)]))))))))
def S156 (G : Told) (_fuel : Nat) (x0 x1 x2 : D) : Option (Nat × List D) :=
  (gcall G none 150 [x0, x1] 1).bind fun e3 =>
  (gev (some ((e3.getD 0 .undef), true)) .id [x2]).bind fun x4 =>
  (gev (some ((e3.getD 0 .undef), true)) .id [x1]).bind fun x5 =>
  (gev (some ((e3.getD 0 .undef), true)) .len [x5]).bind fun x6 =>
  (gev (some ((e3.getD 0 .undef), true)) (.iar .sub .i64) [x6, (.int 1)]).bind fun x7 =>
  (gcall G (some ((e3.getD 0 .undef), true)) 19 [x4, (.int 0), x7] 1).bind fun e8 =>
  (gev none .pick [(e3.getD 0 .undef), (e8.getD 0 .undef), (.bool false)]).bind fun x9 =>
  some (0, [x9])
theorem eq156 {G : Told} {fuel : Nat} (x0 x1 x2 : D) : run G fuel T156 [x0, x1, x2] = S156 G fuel x0 x1 x2 := by
  rw [run_eq]; kernel_rfl

def T158 : T :=
(.op none (.far .mul .f32) [(.v 1), (.v 5)] <|
(.op none (.far .mul .f32) [(.v 2), (.v 4)] <|
(.op none (.far .sub .f32) [(.v 6), (.v 7)] <|
(.op none (.far .mul .f32) [(.v 2), (.v 3)] <|
(.op none (.far .mul .f32) [(.v 0), (.v 5)] <|
(.op none (.far .sub .f32) [(.v 9), (.v 10)] <|
(.op none (.far .mul .f32) [(.v 0), (.v 4)] <|
(.op none (.far .mul .f32) [(.v 1), (.v 3)] <|
(.op none (.far .sub .f32) [(.v 12), (.v 13)] <|
(.out 0 [(.v 8), (.v 11), (.v 14)]))))))))))
def S158 (_G : Told) (_fuel : Nat) (x0 x1 x2 x3 x4 x5 : D) : Option (Nat × List D) :=
  (gev none (.far .mul .f32) [x1, x5]).bind fun x6 =>
  (gev none (.far .mul .f32) [x2, x4]).bind fun x7 =>
  (gev none (.far .sub .f32) [x6, x7]).bind fun x8 =>
  (gev none (.far .mul .f32) [x2, x3]).bind fun x9 =>
  (gev none (.far .mul .f32) [x0, x5]).bind fun x10 =>
  (gev none (.far .sub .f32) [x9, x10]).bind fun x11 =>
  (gev none (.far .mul .f32) [x0, x4]).bind fun x12 =>
  (gev none (.far .mul .f32) [x1, x3]).bind fun x13 =>
  (gev none (.far .sub .f32) [x12, x13]).bind fun x14 =>
  some (0, [x8, x11, x14])
theorem eq158 {G : Told} {fuel : Nat} (x0 x1 x2 x3 x4 x5 : D) : run G fuel T158 [x0, x1, x2, x3, x4, x5] = S158 G fuel x0 x1 x2 x3 x4 x5 := by
  rw [run_eq]; kernel_rfl

def T159 : T :=
(.op none .idx [(.v 1), (.v 2)] <|
(.op none .idx [(.v 3), (.c (.int 0))] <|
(.op none .idx [(.v 0), (.v 4)] <|
(.op none (.proj 0) [(.v 5)] <|
(.op none (.proj 1) [(.v 5)] <|
(.op none (.proj 2) [(.v 5)] <|
(.op none .idx [(.v 3), (.c (.int 1))] <|
(.op none .idx [(.v 0), (.v 9)] <|
(.op none (.proj 0) [(.v 10)] <|
(.op none (.proj 1) [(.v 10)] <|
(.op none (.proj 2) [(.v 10)] <|
(.call none 13 [(.v 11), (.v 12), (.v 13), (.v 6), (.v 7), (.v 8)] 3 <|
(.op none .idx [(.v 3), (.c (.int 2))] <|
(.op none .idx [(.v 0), (.v 17)] <|
(.op none (.proj 0) [(.v 18)] <|
(.op none (.proj 1) [(.v 18)] <|
(.op none (.proj 2) [(.v 18)] <|
(.call none 13 [(.v 19), (.v 20), (.v 21), (.v 6), (.v 7), (.v 8)] 3 <|
(.call none 158 [(.v 14), (.v 15), (.v 16), (.v 22), (.v 23), (.v 24)] 3 <|
(.out 0 [(.v 25), (.v 26), (.v 27)]))))))))))))))))))))
def S159 (G : Told) (_fuel : Nat) (x0 x1 x2 : D) : Option (Nat × List D) :=
  (gev none .idx [x1, x2]).bind fun x3 =>
  (gev none .idx [x3, (.int 0)]).bind fun x4 =>
  (gev none .idx [x0, x4]).bind fun x5 =>
  (gev none (.proj 0) [x5]).bind fun x6 =>
  (gev none (.proj 1) [x5]).bind fun x7 =>
  (gev none (.proj 2) [x5]).bind fun x8 =>
  (gev none .idx [x3, (.int 1)]).bind fun x9 =>
  (gev none .idx [x0, x9]).bind fun x10 =>
  (gev none (.proj 0) [x10]).bind fun x11 =>
  (gev none (.proj 1) [x10]).bind fun x12 =>
  (gev none (.proj 2) [x10]).bind fun x13 =>
  (gcall G none 13 [x11, x12, x13, x6, x7, x8] 3).bind fun e14 =>
  (gev none .idx [x3, (.int 2)]).bind fun x17 =>
  (gev none .idx [x0, x17]).bind fun x18 =>
  (gev none (.proj 0) [x18]).bind fun x19 =>
  (gev none (.proj 1) [x18]).bind fun x20 =>
  (gev none (.proj 2) [x18]).bind fun x21 =>
  (gcall G none 13 [x19, x20, x21, x6, x7, x8] 3).bind fun e22 =>
  (gcall G none 158 [(e14.getD 0 .undef), (e14.getD 1 .undef), (e14.getD 2 .undef), (e22.getD 0 .undef), (e22.getD 1 .undef), (e22.getD 2 .undef)] 3).bind fun e25 =>
  some (0, [(e25.getD 0 .undef), (e25.getD 1 .undef), (e25.getD 2 .undef)])
theorem eq159 {G : Told} {fuel : Nat} (x0 x1 x2 : D) : run G fuel T159 [x0, x1, x2] = S159 G fuel x0 x1 x2 := by
  rw [run_eq]; kernel_rfl

def T160 : T :=
(.op none .idx [(.v 2), (.c (.int 0))] <|
(.op none .idx [(.v 0), (.v 3)] <|
(.op none (.proj 0) [(.v 4)] <|
(.op none (.proj 1) [(.v 4)] <|
(.op none (.proj 2) [(.v 4)] <|
(.op none .idx [(.v 2), (.c (.int 1))] <|
(.op none .idx [(.v 0), (.v 8)] <|
(.op none (.proj 0) [(.v 9)] <|
(.op none (.proj 1) [(.v 9)] <|
(.op none (.proj 2) [(.v 9)] <|
(.call none 13 [(.v 10), (.v 11), (.v 12), (.v 5), (.v 6), (.v 7)] 3 <|
(.op none .idx [(.v 2), (.c (.int 2))] <|
(.op none .idx [(.v 0), (.v 16)] <|
(.op none (.proj 0) [(.v 17)] <|
(.op none (.proj 1) [(.v 17)] <|
(.op none (.proj 2) [(.v 17)] <|
(.call none 13 [(.v 18), (.v 19), (.v 20), (.v 5), (.v 6), (.v 7)] 3 <|
(.call none 158 [(.v 13), (.v 14), (.v 15), (.v 21), (.v 22), (.v 23)] 3 <|
(.out 0 [(.v 24), (.v 25), (.v 26)])))))))))))))))))))
def S160 (G : Told) (_fuel : Nat) (x0 _x1 x2 : D) : Option (Nat × List D) :=
  (gev none .idx [x2, (.int 0)]).bind fun x3 =>
  (gev none .idx [x0, x3]).bind fun x4 =>
  (gev none (.proj 0) [x4]).bind fun x5 =>
  (gev none (.proj 1) [x4]).bind fun x6 =>
  (gev none (.proj 2) [x4]).bind fun x7 =>
  (gev none .idx [x2, (.int 1)]).bind fun x8 =>
  (gev none .idx [x0, x8]).bind fun x9 =>
  (gev none (.proj 0) [x9]).bind fun x10 =>
  (gev none (.proj 1) [x9]).bind fun x11 =>
  (gev none (.proj 2) [x9]).bind fun x12 =>
  (gcall G none 13 [x10, x11, x12, x5, x6, x7] 3).bind fun e13 =>
  (gev none .idx [x2, (.int 2)]).bind fun x16 =>
  (gev none .idx [x0, x16]).bind fun x17 =>
  (gev none (.proj 0) [x17]).bind fun x18 =>
  (gev none (.proj 1) [x17]).bind fun x19 =>
  (gev none (.proj 2) [x17]).bind fun x20 =>
  (gcall G none 13 [x18, x19, x20, x5, x6, x7] 3).bind fun e21 =>
  (gcall G none 158 [(e13.getD 0 .undef), (e13.getD 1 .undef), (e13.getD 2 .undef), (e21.getD 0 .undef), (e21.getD 1 .undef), (e21.getD 2 .undef)] 3).bind fun e24 =>
  some (0, [(e24.getD 0 .undef), (e24.getD 1 .undef), (e24.getD 2 .undef)])
theorem eq160 {G : Told} {fuel : Nat} (x0 x1 x2 : D) : run G fuel T160 [x0, x1, x2] = S160 G fuel x0 x1 x2 := by
  rw [run_eq]; kernel_rfl

def T161 : T :=
(.op none .idx [(.v 1), (.v 2)] <|
(.op none .idx [(.v 3), (.c (.int 1))] <|
(.op none .idx [(.v 0), (.v 4)] <|
(.op none (.proj 0) [(.v 5)] <|
(.op none (.proj 1) [(.v 5)] <|
(.op none (.proj 2) [(.v 5)] <|
(.op none .idx [(.v 3), (.c (.int 0))] <|
(.op none .idx [(.v 0), (.v 9)] <|
(.op none (.proj 0) [(.v 10)] <|
(.op none (.proj 1) [(.v 10)] <|
(.op none (.proj 2) [(.v 10)] <|
(.call none 13 [(.v 6), (.v 7), (.v 8), (.v 11), (.v 12), (.v 13)] 3 <|
(.op none .idx [(.v 3), (.c (.int 2))] <|
(.op none .idx [(.v 0), (.v 17)] <|
(.op none (.proj 0) [(.v 18)] <|
(.op none (.proj 1) [(.v 18)] <|
(.op none (.proj 2) [(.v 18)] <|
(.op none .idx [(.v 3), (.c (.int 1))] <|
(.op none .idx [(.v 0), (.v 22)] <|
(.op none (.proj 0) [(.v 23)] <|
(.op none (.proj 1) [(.v 23)] <|
(.op none (.proj 2) [(.v 23)] <|
(.call none 13 [(.v 19), (.v 20), (.v 21), (.v 24), (.v 25), (.v 26)] 3 <|
(.op none .idx [(.v 3), (.c (.int 0))] <|
(.op none .idx [(.v 0), (.v 30)] <|
(.op none (.proj 0) [(.v 31)] <|
(.op none (.proj 1) [(.v 31)] <|
(.op none (.proj 2) [(.v 31)] <|
(.op none .idx [(.v 3), (.c (.int 2))] <|
(.op none .idx [(.v 0), (.v 35)] <|
(.op none (.proj 0) [(.v 36)] <|
(.op none (.proj 1) [(.v 36)] <|
(.op none (.proj 2) [(.v 36)] <|
(.call none 13 [(.v 32), (.v 33), (.v 34), (.v 37), (.v 38), (.v 39)] 3 <|
(.call none 14 [(.v 14), (.v 15), (.v 16), (.v 14), (.v 15), (.v 16)] 1 <|
(.call none 14 [(.v 27), (.v 28), (.v 29), (.v 27), (.v 28), (.v 29)] 1 <|
(.op none (.far .add .f32) [(.v 43), (.v 44)] <|
(.call none 14 [(.v 40), (.v 41), (.v 42), (.v 40), (.v 41), (.v 42)] 1 <|
(.op none (.far .add .f32) [(.v 45), (.v 46)] <|
(.call none 159 [(.v 0), (.v 1), (.v 2)] 3 <|
(.call none 15 [(.v 48), (.v 49), (.v 50)] 1 <|
(.op none (.far .mul .f32) [(.c (.flt 1079882711)), (.v 51)] <|
(.op none (.far .quo .f32) [(.v 52), (.v 47)] <|
(.out 0 [(.v 53)]))))))))))))))))))))))))))))))))))))))))))))
def S161 (G : Told) (_fuel : Nat) (x0 x1 x2 : D) : Option (Nat × List D) :=
  (gev none .idx [x1, x2]).bind fun x3 =>
  (gev none .idx [x3, (.int 1)]).bind fun x4 =>
  (gev none .idx [x0, x4]).bind fun x5 =>
  (gev none (.proj 0) [x5]).bind fun x6 =>
  (gev none (.proj 1) [x5]).bind fun x7 =>
  (gev none (.proj 2) [x5]).bind fun x8 =>
  (gev none .idx [x3, (.int 0)]).bind fun x9 =>
  (gev none .idx [x0, x9]).bind fun x10 =>
  (gev none (.proj 0) [x10]).bind fun x11 =>
  (gev none (.proj 1) [x10]).bind fun x12 =>
  (gev none (.proj 2) [x10]).bind fun x13 =>
  (gcall G none 13 [x6, x7, x8, x11, x12, x13] 3).bind fun e14 =>
  (gev none .idx [x3, (.int 2)]).bind fun x17 =>
  (gev none .idx [x0, x17]).bind fun x18 =>
  (gev none (.proj 0) [x18]).bind fun x19 =>
  (gev none (.proj 1) [x18]).bind fun x20 =>
  (gev none (.proj 2) [x18]).bind fun x21 =>
  (gev none .idx [x3, (.int 1)]).bind fun x22 =>
  (gev none .idx [x0, x22]).bind fun x23 =>
  (gev none (.proj 0) [x23]).bind fun x24 =>
  (gev none (.proj 1) [x23]).bind fun x25 =>
  (gev none (.proj 2) [x23]).bind fun x26 =>
  (gcall G none 13 [x19, x20, x21, x24, x25, x26] 3).bind fun e27 =>
  (gev none .idx [x3, (.int 0)]).bind fun x30 =>
  (gev none .idx [x0, x30]).bind fun x31 =>
  (gev none (.proj 0) [x31]).bind fun x32 =>
  (gev none (.proj 1) [x31]).bind fun x33 =>
  (gev none (.proj 2) [x31]).bind fun x34 =>
  (gev none .idx [x3, (.int 2)]).bind fun x35 =>
  (gev none .idx [x0, x35]).bind fun x36 =>
  (gev none (.proj 0) [x36]).bind fun x37 =>
  (gev none (.proj 1) [x36]).bind fun x38 =>
  (gev none (.proj 2) [x36]).bind fun x39 =>
  (gcall G none 13 [x32, x33, x34, x37, x38, x39] 3).bind fun e40 =>
  (gcall G none 14 [(e14.getD 0 .undef), (e14.getD 1 .undef), (e14.getD 2 .undef), (e14.getD 0 .undef), (e14.getD 1 .undef), (e14.getD 2 .undef)] 1).bind fun e43 =>
  (gcall G none 14 [(e27.getD 0 .undef), (e27.getD 1 .undef), (e27.getD 2 .undef), (e27.getD 0 .undef), (e27.getD 1 .undef), (e27.getD 2 .undef)] 1).bind fun e44 =>
  (gev none (.far .add .f32) [(e43.getD 0 .undef), (e44.getD 0 .undef)]).bind fun x45 =>
  (gcall G none 14 [(e40.getD 0 .undef), (e40.getD 1 .undef), (e40.getD 2 .undef), (e40.getD 0 .undef), (e40.getD 1 .undef), (e40.getD 2 .undef)] 1).bind fun e46 =>
  (gev none (.far .add .f32) [x45, (e46.getD 0 .undef)]).bind fun x47 =>
  (gcall G none 159 [x0, x1, x2] 3).bind fun e48 =>
  (gcall G none 15 [(e48.getD 0 .undef), (e48.getD 1 .undef), (e48.getD 2 .undef)] 1).bind fun e51 =>
  (gev none (.far .mul .f32) [(.flt 1079882711), (e51.getD 0 .undef)]).bind fun x52 =>
  (gev none (.far .quo .f32) [x52, x47]).bind fun x53 =>
  some (0, [x53])
theorem eq161 {G : Told} {fuel : Nat} (x0 x1 x2 : D) : run G fuel T161 [x0, x1, x2] = S161 G fuel x0 x1 x2 := by
  rw [run_eq]; kernel_rfl

def T162 : T :=
(.op none .idx [(.v 2), (.c (.int 0))] <|
(.op none .idx [(.v 0), (.v 3)] <|
(.op none (.proj 0) [(.v 4)] <|
(.op none (.proj 1) [(.v 4)] <|
(.op none (.proj 2) [(.v 4)] <|
(.op none .idx [(.v 2), (.c (.int 1))] <|
(.op none .idx [(.v 0), (.v 8)] <|
(.op none (.proj 0) [(.v 9)] <|
(.op none (.proj 1) [(.v 9)] <|
(.op none (.proj 2) [(.v 9)] <|
(.op none .idx [(.v 2), (.c (.int 2))] <|
(.op none .idx [(.v 0), (.v 13)] <|
(.op none (.proj 0) [(.v 14)] <|
(.op none (.proj 1) [(.v 14)] <|
(.op none (.proj 2) [(.v 14)] <|
(.call none 13 [(.v 10), (.v 11), (.v 12), (.v 5), (.v 6), (.v 7)] 3 <|
(.call none 13 [(.v 15), (.v 16), (.v 17), (.v 10), (.v 11), (.v 12)] 3 <|
(.call none 13 [(.v 5), (.v 6), (.v 7), (.v 15), (.v 16), (.v 17)] 3 <|
(.op none .mkagg [(.v 18), (.v 19), (.v 20)] <|
(.op none .mkagg [(.v 21), (.v 22), (.v 23)] <|
(.op none .mkagg [(.v 24), (.v 25), (.v 26)] <|
(.op none .mklst [(.v 27), (.v 28), (.v 29)] <|
(.op none .len [(.v 30)] <|
(.join 3
  (.loop [(.c (.flt 0)), (.c (.int 0))]
    (.op none (.icm .lss) [(.v 33), (.v 31)] <|
    (.ite (.v 34)
      (.op none .idx [(.v 30), (.v 33)] <|
      (.op none .idx [(.v 30), (.v 33)] <|
      (.op none (.proj 0) [(.v 36)] <|
      (.op none (.proj 1) [(.v 36)] <|
      (.op none (.proj 2) [(.v 36)] <|
      (.op none (.icm .eql) [(.v 33), (.c (.int 0))] <|
      (.join 1
        (.ite (.v 40)
          (.call none 14 [(.v 37), (.v 38), (.v 39), (.v 37), (.v 38), (.v 39)] 1 <|
          (.out 0 [(.v 41)]))
          (.call none 14 [(.v 37), (.v 38), (.v 39), (.v 37), (.v 38), (.v 39)] 1 <|
          (.op none (.far .add .f32) [(.v 32), (.v 41)] <|
          (.out 0 [(.v 42)]))))
      (.op none (.iar .add .i64) [(.v 33), (.c (.int 1))] <|
      (.out 0 [(.v 41), (.v 42)])))))))))
      (.out 1 [(.v 32), (.v 33), (.v 34)]))))
(.call none 160 [(.v 0), (.v 1), (.v 2)] 3 <|
(.call none 15 [(.v 35), (.v 36), (.v 37)] 1 <|
(.op none (.far .mul .f32) [(.c (.flt 1079882711)), (.v 38)] <|
(.op none (.far .quo .f32) [(.v 39), (.v 32)] <|
(.out 0 [(.v 40)])))))))))))))))))))))))))))))
def S162L0 (G : Told) (x30 : D) (x31 : D) : List D → Option (Nat × List D) := fun e32 =>
      (gev none (.icm .lss) [(e32.getD 1 .undef), x31]).bind fun x34 =>
      tif x34 (
        (gev none .idx [x30, (e32.getD 1 .undef)]).bind fun _x35 =>
        (gev none .idx [x30, (e32.getD 1 .undef)]).bind fun x36 =>
        (gev none (.proj 0) [x36]).bind fun x37 =>
        (gev none (.proj 1) [x36]).bind fun x38 =>
        (gev none (.proj 2) [x36]).bind fun x39 =>
        (gev none (.icm .eql) [(e32.getD 1 .undef), (.int 0)]).bind fun x40 =>
        tjoin 1 (
          tif x40 (
            (gcall G none 14 [x37, x38, x39, x37, x38, x39] 1).bind fun e41 =>
            some (0, [(e41.getD 0 .undef)])) (
            (gcall G none 14 [x37, x38, x39, x37, x38, x39] 1).bind fun e41 =>
            (gev none (.far .add .f32) [(e32.getD 0 .undef), (e41.getD 0 .undef)]).bind fun x42 =>
            some (0, [x42]))) fun e41 =>
        (gev none (.iar .add .i64) [(e32.getD 1 .undef), (.int 1)]).bind fun x42 =>
        some (0, [(e41.getD 0 .undef), x42])) (
        some (1, [(e32.getD 0 .undef), (e32.getD 1 .undef), x34]))
def S162 (G : Told) (fuel : Nat) (x0 x1 x2 : D) : Option (Nat × List D) :=
  (gev none .idx [x2, (.int 0)]).bind fun x3 =>
  (gev none .idx [x0, x3]).bind fun x4 =>
  (gev none (.proj 0) [x4]).bind fun x5 =>
  (gev none (.proj 1) [x4]).bind fun x6 =>
  (gev none (.proj 2) [x4]).bind fun x7 =>
  (gev none .idx [x2, (.int 1)]).bind fun x8 =>
  (gev none .idx [x0, x8]).bind fun x9 =>
  (gev none (.proj 0) [x9]).bind fun x10 =>
  (gev none (.proj 1) [x9]).bind fun x11 =>
  (gev none (.proj 2) [x9]).bind fun x12 =>
  (gev none .idx [x2, (.int 2)]).bind fun x13 =>
  (gev none .idx [x0, x13]).bind fun x14 =>
  (gev none (.proj 0) [x14]).bind fun x15 =>
  (gev none (.proj 1) [x14]).bind fun x16 =>
  (gev none (.proj 2) [x14]).bind fun x17 =>
  (gcall G none 13 [x10, x11, x12, x5, x6, x7] 3).bind fun e18 =>
  (gcall G none 13 [x15, x16, x17, x10, x11, x12] 3).bind fun e21 =>
  (gcall G none 13 [x5, x6, x7, x15, x16, x17] 3).bind fun e24 =>
  (gev none .mkagg [(e18.getD 0 .undef), (e18.getD 1 .undef), (e18.getD 2 .undef)]).bind fun x27 =>
  (gev none .mkagg [(e21.getD 0 .undef), (e21.getD 1 .undef), (e21.getD 2 .undef)]).bind fun x28 =>
  (gev none .mkagg [(e24.getD 0 .undef), (e24.getD 1 .undef), (e24.getD 2 .undef)]).bind fun x29 =>
  (gev none .mklst [x27, x28, x29]).bind fun x30 =>
  (gev none .len [x30]).bind fun x31 =>
  tjoin 3 (
    iter (tbody 2 (S162L0 G x30 x31)) fuel [(.flt 0), (.int 0)]) fun e32 =>
  (gcall G none 160 [x0, x1, x2] 3).bind fun e35 =>
  (gcall G none 15 [(e35.getD 0 .undef), (e35.getD 1 .undef), (e35.getD 2 .undef)] 1).bind fun e38 =>
  (gev none (.far .mul .f32) [(.flt 1079882711), (e38.getD 0 .undef)]).bind fun x39 =>
  (gev none (.far .quo .f32) [x39, (e32.getD 0 .undef)]).bind fun x40 =>
  some (0, [x40])
theorem eq162 {G : Told} {fuel : Nat} (x0 x1 x2 : D) : run G fuel T162 [x0, x1, x2] = S162 G fuel x0 x1 x2 := by
  rw [run_eq]; kernel_rfl

def T163 : T :=
(.call none 156 [(.v 0), (.v 1), (.v 2)] 1 <|
(.op none .bnot [(.v 3)] <|
(.ite (.v 4)
  (.out 0 [(.c (.flt 0)), (.c (.bool false))])
  (.op none .idx [(.v 1), (.v 2)] <|
  (.call none 162 [(.v 0), (.v 1), (.v 5)] 1 <|
  (.out 0 [(.v 6), (.c (.bool true))]))))))
def S163 (G : Told) (_fuel : Nat) (x0 x1 x2 : D) : Option (Nat × List D) :=
  (gcall G none 156 [x0, x1, x2] 1).bind fun e3 =>
  (gev none .bnot [(e3.getD 0 .undef)]).bind fun x4 =>
  tif x4 (
    some (0, [(.flt 0), (.bool false)])) (
    (gev none .idx [x1, x2]).bind fun x5 =>
    (gcall G none 162 [x0, x1, x5] 1).bind fun e6 =>
    some (0, [(e6.getD 0 .undef), (.bool true)]))
theorem eq163 {G : Told} {fuel : Nat} (x0 x1 x2 : D) : run G fuel T163 [x0, x1, x2] = S163 G fuel x0 x1 x2 := by
  rw [run_eq]; kernel_rfl

def T163s : T :=
(.call none 150 [(.v 0), (.v 1)] 1 <|
(.op none .bnot [(.v 3)] <|
(.op (some ((.v 4), false)) .id [(.v 2)] <|
(.op (some ((.v 4), false)) .id [(.v 1)] <|
(.op (some ((.v 4), false)) .len [(.v 6)] <|
(.op (some ((.v 4), false)) (.iar .sub .i64) [(.v 7), (.c (.int 1))] <|
(.call (some ((.v 4), false)) 19 [(.v 5), (.c (.int 0)), (.v 8)] 1 <|
(.op (some ((.v 4), false)) .bnot [(.v 9)] <|
(.op none .pick [(.v 4), (.c (.bool true)), (.v 10)] <|
(.ite (.v 11)
  (.out 0 [(.c (.flt 0)), (.c (.bool false))])
  (.call none 161 [(.v 0), (.v 1), (.v 2)] 1 <|
  (.out 0 [(.v 12), (.c (.bool true))]))))))))))))
def S163s (G : Told) (_fuel : Nat) (x0 x1 x2 : D) : Option (Nat × List D) :=
  (gcall G none 150 [x0, x1] 1).bind fun e3 =>
  (gev none .bnot [(e3.getD 0 .undef)]).bind fun x4 =>
  (gev (some (x4, false)) .id [x2]).bind fun x5 =>
  (gev (some (x4, false)) .id [x1]).bind fun x6 =>
  (gev (some (x4, false)) .len [x6]).bind fun x7 =>
  (gev (some (x4, false)) (.iar .sub .i64) [x7, (.int 1)]).bind fun x8 =>
  (gcall G (some (x4, false)) 19 [x5, (.int 0), x8] 1).bind fun e9 =>
  (gev (some (x4, false)) .bnot [(e9.getD 0 .undef)]).bind fun x10 =>
  (gev none .pick [x4, (.bool true), x10]).bind fun x11 =>
  tif x11 (
    some (0, [(.flt 0), (.bool false)])) (
    (gcall G none 161 [x0, x1, x2] 1).bind fun e12 =>
    some (0, [(e12.getD 0 .undef), (.bool true)]))
theorem eq163s {G : Told} {fuel : Nat} (x0 x1 x2 : D) : run G fuel T163s [x0, x1, x2] = S163s G fuel x0 x1 x2 := by
  rw [run_eq]; kernel_rfl

def T164 : T :=
(.call none 142 [(.v 0), (.v 1), (.c (.int 1048576))] 1 <|
(.op none (.icm .lss) [(.v 3), (.c (.int 0))] <|
(.ite (.v 4)
  (.out 0 [(.c (.bool true))])
  (.call none 145 [(.v 0), (.v 1)] 2 <|
  (.call none 163 [(.v 5), (.v 6), (.v 2)] 2 <|
  (.call none 145 [(.v 0), (.v 1)] 2 <|
  (.call none 163 [(.v 9), (.v 10), (.v 2)] 2 <|
  (.op none (.f2f .f32 .f64) [(.v 11)] <|
  (.op none (.f2f .f32 .f64) [(.v 7)] <|
  (.call none 4 [(.v 13), (.v 14)] 1 <|
  (.op none .bnot [(.v 15)] <|
  (.op (some ((.v 16), false)) .id [(.v 12)] <|
  (.op (some ((.v 16), false)) .id [(.v 8)] <|
  (.op (some ((.v 16), false)) .bne [(.v 17), (.v 18)] <|
  (.op none .pick [(.v 16), (.c (.bool true)), (.v 19)] <|
  (.ite (.v 20)
    (.out 0 [(.c (.bool false))])
    (.call none 145 [(.v 0), (.v 1)] 2 <|
    (.call none 146 [(.v 9), (.v 10), (.v 21), (.v 22)] 1 <|
    (.op none .bnot [(.v 23)] <|
    (.ite (.v 24)
      (.out 0 [(.c (.bool false))])
      (.out 0 [(.c (.bool true))])))))))))))))))))))))
def S164 (G : Told) (_fuel : Nat) (x0 x1 x2 : D) : Option (Nat × List D) :=
  (gcall G none 142 [x0, x1, (.int 1048576)] 1).bind fun e3 =>
  (gev none (.icm .lss) [(e3.getD 0 .undef), (.int 0)]).bind fun x4 =>
  tif x4 (
    some (0, [(.bool true)])) (
    (gcall G none 145 [x0, x1] 2).bind fun e5 =>
    (gcall G none 163 [(e5.getD 0 .undef), (e5.getD 1 .undef), x2] 2).bind fun e7 =>
    (gcall G none 145 [x0, x1] 2).bind fun e9 =>
    (gcall G none 163 [(e9.getD 0 .undef), (e9.getD 1 .undef), x2] 2).bind fun e11 =>
    (gev none (.f2f .f32 .f64) [(e11.getD 0 .undef)]).bind fun x13 =>
    (gev none (.f2f .f32 .f64) [(e7.getD 0 .undef)]).bind fun x14 =>
    (gcall G none 4 [x13, x14] 1).bind fun e15 =>
    (gev none .bnot [(e15.getD 0 .undef)]).bind fun x16 =>
    (gev (some (x16, false)) .id [(e11.getD 1 .undef)]).bind fun x17 =>
    (gev (some (x16, false)) .id [(e7.getD 1 .undef)]).bind fun x18 =>
    (gev (some (x16, false)) .bne [x17, x18]).bind fun x19 =>
    (gev none .pick [x16, (.bool true), x19]).bind fun x20 =>
    tif x20 (
      some (0, [(.bool false)])) (
      (gcall G none 145 [x0, x1] 2).bind fun e21 =>
      (gcall G none 146 [(e9.getD 0 .undef), (e9.getD 1 .undef), (e21.getD 0 .undef), (e21.getD 1 .undef)] 1).bind fun e23 =>
      (gev none .bnot [(e23.getD 0 .undef)]).bind fun x24 =>
      tif x24 (
        some (0, [(.bool false)])) (
        some (0, [(.bool true)]))))
theorem eq164 {G : Told} {fuel : Nat} (x0 x1 x2 : D) : run G fuel T164 [x0, x1, x2] = S164 G fuel x0 x1 x2 := by
  rw [run_eq]; kernel_rfl

def T165 : T :=
(.call none 150 [(.v 0), (.v 1)] 1 <|
(.op none .bnot [(.v 3)] <|
(.ite (.v 4)
  (.out 0 [(.c (.lst [])), (.c (.bool false))])
  (.op none .mklst [] <|
  (.op none .len [(.v 1)] <|
  (.join 3
    (.loop [(.v 5), (.c (.int 0))]
      (.op none (.icm .lss) [(.v 8), (.v 6)] <|
      (.ite (.v 9)
        (.op none .idx [(.v 1), (.v 8)] <|
        (.call none 162 [(.v 0), (.v 1), (.v 10)] 1 <|
        (.op none (.fcm .lss .f32) [(.v 11), (.v 2)] <|
        (.join 1
          (.ite (.v 12)
            (.op none .mklst [(.v 8)] <|
            (.op none .app [(.v 7), (.v 13)] <|
            (.out 0 [(.v 14)])))
            (.out 0 [(.v 7)]))
        (.op none (.iar .add .i64) [(.v 8), (.c (.int 1))] <|
        (.out 0 [(.v 13), (.v 14)]))))))
        (.out 1 [(.v 7), (.v 8), (.v 9)]))))
  (.out 0 [(.v 7), (.c (.bool true))])))))))
def S165L0 (G : Told) (x0 : D) (x1 : D) (x2 : D) (x6 : D) : List D → Option (Nat × List D) := fun e7 =>
        (gev none (.icm .lss) [(e7.getD 1 .undef), x6]).bind fun x9 =>
        tif x9 (
          (gev none .idx [x1, (e7.getD 1 .undef)]).bind fun x10 =>
          (gcall G none 162 [x0, x1, x10] 1).bind fun e11 =>
          (gev none (.fcm .lss .f32) [(e11.getD 0 .undef), x2]).bind fun x12 =>
          tjoin 1 (
            tif x12 (
              (gev none .mklst [(e7.getD 1 .undef)]).bind fun x13 =>
              (gev none .app [(e7.getD 0 .undef), x13]).bind fun x14 =>
              some (0, [x14])) (
              some (0, [(e7.getD 0 .undef)]))) fun e13 =>
          (gev none (.iar .add .i64) [(e7.getD 1 .undef), (.int 1)]).bind fun x14 =>
          some (0, [(e13.getD 0 .undef), x14])) (
          some (1, [(e7.getD 0 .undef), (e7.getD 1 .undef), x9]))
def S165 (G : Told) (fuel : Nat) (x0 x1 x2 : D) : Option (Nat × List D) :=
  (gcall G none 150 [x0, x1] 1).bind fun e3 =>
  (gev none .bnot [(e3.getD 0 .undef)]).bind fun x4 =>
  tif x4 (
    some (0, [(.lst []), (.bool false)])) (
    (gev none .mklst []).bind fun x5 =>
    (gev none .len [x1]).bind fun x6 =>
    tjoin 3 (
      iter (tbody 2 (S165L0 G x0 x1 x2 x6)) fuel [x5, (.int 0)]) fun e7 =>
    some (0, [(e7.getD 0 .undef), (.bool true)]))
theorem eq165 {G : Told} {fuel : Nat} (x0 x1 x2 : D) : run G fuel T165 [x0, x1, x2] = S165 G fuel x0 x1 x2 := by
  rw [run_eq]; kernel_rfl

def T165s : T :=
(.call none 150 [(.v 0), (.v 1)] 1 <|
(.op none .bnot [(.v 3)] <|
(.ite (.v 4)
  (.out 0 [(.c (.lst [])), (.c (.bool false))])
  (.op none .mklst [] <|
  (.join 5
    (.loop [(.v 5), (.c (.int 0))]
      (.op none .len [(.v 1)] <|
      (.op none (.icm .lss) [(.v 7), (.v 8)] <|
      (.ite (.v 9)
        (.call none 161 [(.v 0), (.v 1), (.v 7)] 1 <|
        (.op none (.fcm .lss .f32) [(.v 10), (.v 2)] <|
        (.join 1
          (.ite (.v 11)
            (.op none .mklst [(.v 7)] <|
            (.op none .app [(.v 6), (.v 12)] <|
            (.out 0 [(.v 13)])))
            (.out 0 [(.v 6)]))
        (.op none (.iar .add .i64) [(.v 7), (.c (.int 1))] <|
        (.out 0 [(.v 12), (.v 13)])))))
        (.out 1 [(.v 6), (.v 7), (.v 7), (.v 8), (.v 9)])))))
  (.out 0 [(.v 6), (.c (.bool true))]))))))
def S165sL0 (G : Told) (x0 : D) (x1 : D) (x2 : D) : List D → Option (Nat × List D) := fun e6 =>
        (gev none .len [x1]).bind fun x8 =>
        (gev none (.icm .lss) [(e6.getD 1 .undef), x8]).bind fun x9 =>
        tif x9 (
          (gcall G none 161 [x0, x1, (e6.getD 1 .undef)] 1).bind fun e10 =>
          (gev none (.fcm .lss .f32) [(e10.getD 0 .undef), x2]).bind fun x11 =>
          tjoin 1 (
            tif x11 (
              (gev none .mklst [(e6.getD 1 .undef)]).bind fun x12 =>
              (gev none .app [(e6.getD 0 .undef), x12]).bind fun x13 =>
              some (0, [x13])) (
              some (0, [(e6.getD 0 .undef)]))) fun e12 =>
          (gev none (.iar .add .i64) [(e6.getD 1 .undef), (.int 1)]).bind fun x13 =>
          some (0, [(e12.getD 0 .undef), x13])) (
          some (1, [(e6.getD 0 .undef), (e6.getD 1 .undef), (e6.getD 1 .undef), x8, x9]))
def S165s (G : Told) (fuel : Nat) (x0 x1 x2 : D) : Option (Nat × List D) :=
  (gcall G none 150 [x0, x1] 1).bind fun e3 =>
  (gev none .bnot [(e3.getD 0 .undef)]).bind fun x4 =>
  tif x4 (
    some (0, [(.lst []), (.bool false)])) (
    (gev none .mklst []).bind fun x5 =>
    tjoin 5 (
      iter (tbody 2 (S165sL0 G x0 x1 x2)) fuel [x5, (.int 0)]) fun e6 =>
    some (0, [(e6.getD 0 .undef), (.bool true)]))
theorem eq165s {G : Told} {fuel : Nat} (x0 x1 x2 : D) : run G fuel T165s [x0, x1, x2] = S165s G fuel x0 x1 x2 := by
  rw [run_eq]; kernel_rfl

def T166 : T :=
(.call none 142 [(.v 0), (.v 1), (.c (.int 1048576))] 1 <|
(.op none (.icm .lss) [(.v 3), (.c (.int 0))] <|
(.ite (.v 4)
  (.out 0 [(.c (.bool true))])
  (.call none 145 [(.v 0), (.v 1)] 2 <|
  (.call none 165 [(.v 5), (.v 6), (.v 2)] 2 <|
  (.call none 145 [(.v 0), (.v 1)] 2 <|
  (.call none 165 [(.v 9), (.v 10), (.v 2)] 2 <|
  (.call none 100 [(.v 11), (.v 7)] 1 <|
  (.op none .bnot [(.v 13)] <|
  (.op (some ((.v 14), false)) .id [(.v 12)] <|
  (.op (some ((.v 14), false)) .id [(.v 8)] <|
  (.op (some ((.v 14), false)) .bne [(.v 15), (.v 16)] <|
  (.op none .pick [(.v 14), (.c (.bool true)), (.v 17)] <|
  (.ite (.v 18)
    (.out 0 [(.c (.bool false))])
    (.call none 145 [(.v 0), (.v 1)] 2 <|
    (.call none 146 [(.v 9), (.v 10), (.v 19), (.v 20)] 1 <|
    (.op none .bnot [(.v 21)] <|
    (.ite (.v 22)
      (.out 0 [(.c (.bool false))])
      (.call none 147 [(.v 9), (.v 10), (.c (.int 1))] 3 <|
      (.op none (.icm .lss) [(.v 23), (.c (.int 0))] <|
      (.call (some ((.v 26), false)) 100 [(.v 11), (.v 7)] 1 <|
      (.op (some ((.v 26), false)) .bnot [(.v 27)] <|
      (.op none .pick [(.v 26), (.c (.bool true)), (.v 28)] <|
      (.op (some ((.v 29), false)) .id [(.v 12)] <|
      (.op (some ((.v 29), false)) .id [(.v 8)] <|
      (.op (some ((.v 29), false)) .bne [(.v 30), (.v 31)] <|
      (.op none .pick [(.v 29), (.c (.bool true)), (.v 32)] <|
      (.ite (.v 33)
        (.out 0 [(.c (.bool false))])
        (.call none 102 [(.v 11), (.c (.int 1))] 2 <|
        (.call none 104 [(.v 35), (.c (.int 1))] 1 <|
        (.op none (.icm .lss) [(.v 36), (.c (.int 0))] <|
        (.ite (.v 37)
          (.out 0 [(.c (.bool false))])
          (.op none (.icm .neq) [(.v 36), (.v 34)] <|
          (.ite (.v 38)
            (.out 0 [(.c (.bool false))])
            (.call none 145 [(.v 0), (.v 1)] 2 <|
            (.call none 165 [(.v 39), (.v 40), (.v 2)] 2 <|
            (.call none 100 [(.v 41), (.v 7)] 1 <|
            (.op none .bnot [(.v 43)] <|
            (.op (some ((.v 44), false)) .id [(.v 42)] <|
            (.op (some ((.v 44), false)) .id [(.v 8)] <|
            (.op (some ((.v 44), false)) .bne [(.v 45), (.v 46)] <|
            (.op none .pick [(.v 44), (.c (.bool true)), (.v 47)] <|
            (.ite (.v 48)
              (.out 0 [(.c (.bool false))])
              (.call none 104 [(.v 35), (.c (.int 1))] 1 <|
              (.op none (.icm .lss) [(.v 49), (.c (.int 0))] <|
              (.ite (.v 50)
                (.out 0 [(.c (.bool false))])
                (.op none (.icm .neq) [(.v 49), (.v 34)] <|
                (.ite (.v 51)
                  (.out 0 [(.c (.bool false))])
                  (.out 0 [(.c (.bool true))])))))))))))))))))))))))))))))))))))))))))))))))))
def S166 (G : Told) (_fuel : Nat) (x0 x1 x2 : D) : Option (Nat × List D) :=
  (gcall G none 142 [x0, x1, (.int 1048576)] 1).bind fun e3 =>
  (gev none (.icm .lss) [(e3.getD 0 .undef), (.int 0)]).bind fun x4 =>
  tif x4 (
    some (0, [(.bool true)])) (
    (gcall G none 145 [x0, x1] 2).bind fun e5 =>
    (gcall G none 165 [(e5.getD 0 .undef), (e5.getD 1 .undef), x2] 2).bind fun e7 =>
    (gcall G none 145 [x0, x1] 2).bind fun e9 =>
    (gcall G none 165 [(e9.getD 0 .undef), (e9.getD 1 .undef), x2] 2).bind fun e11 =>
    (gcall G none 100 [(e11.getD 0 .undef), (e7.getD 0 .undef)] 1).bind fun e13 =>
    (gev none .bnot [(e13.getD 0 .undef)]).bind fun x14 =>
    (gev (some (x14, false)) .id [(e11.getD 1 .undef)]).bind fun x15 =>
    (gev (some (x14, false)) .id [(e7.getD 1 .undef)]).bind fun x16 =>
    (gev (some (x14, false)) .bne [x15, x16]).bind fun x17 =>
    (gev none .pick [x14, (.bool true), x17]).bind fun x18 =>
    tif x18 (
      some (0, [(.bool false)])) (
      (gcall G none 145 [x0, x1] 2).bind fun e19 =>
      (gcall G none 146 [(e9.getD 0 .undef), (e9.getD 1 .undef), (e19.getD 0 .undef), (e19.getD 1 .undef)] 1).bind fun e21 =>
      (gev none .bnot [(e21.getD 0 .undef)]).bind fun x22 =>
      tif x22 (
        some (0, [(.bool false)])) (
        (gcall G none 147 [(e9.getD 0 .undef), (e9.getD 1 .undef), (.int 1)] 3).bind fun e23 =>
        (gev none (.icm .lss) [(e23.getD 0 .undef), (.int 0)]).bind fun x26 =>
        (gcall G (some (x26, false)) 100 [(e11.getD 0 .undef), (e7.getD 0 .undef)] 1).bind fun e27 =>
        (gev (some (x26, false)) .bnot [(e27.getD 0 .undef)]).bind fun x28 =>
        (gev none .pick [x26, (.bool true), x28]).bind fun x29 =>
        (gev (some (x29, false)) .id [(e11.getD 1 .undef)]).bind fun x30 =>
        (gev (some (x29, false)) .id [(e7.getD 1 .undef)]).bind fun x31 =>
        (gev (some (x29, false)) .bne [x30, x31]).bind fun x32 =>
        (gev none .pick [x29, (.bool true), x32]).bind fun x33 =>
        tif x33 (
          some (0, [(.bool false)])) (
          (gcall G none 102 [(e11.getD 0 .undef), (.int 1)] 2).bind fun e34 =>
          (gcall G none 104 [(e34.getD 1 .undef), (.int 1)] 1).bind fun e36 =>
          (gev none (.icm .lss) [(e36.getD 0 .undef), (.int 0)]).bind fun x37 =>
          tif x37 (
            some (0, [(.bool false)])) (
            (gev none (.icm .neq) [(e36.getD 0 .undef), (e34.getD 0 .undef)]).bind fun x38 =>
            tif x38 (
              some (0, [(.bool false)])) (
              (gcall G none 145 [x0, x1] 2).bind fun e39 =>
              (gcall G none 165 [(e39.getD 0 .undef), (e39.getD 1 .undef), x2] 2).bind fun e41 =>
              (gcall G none 100 [(e41.getD 0 .undef), (e7.getD 0 .undef)] 1).bind fun e43 =>
              (gev none .bnot [(e43.getD 0 .undef)]).bind fun x44 =>
              (gev (some (x44, false)) .id [(e41.getD 1 .undef)]).bind fun x45 =>
              (gev (some (x44, false)) .id [(e7.getD 1 .undef)]).bind fun x46 =>
              (gev (some (x44, false)) .bne [x45, x46]).bind fun x47 =>
              (gev none .pick [x44, (.bool true), x47]).bind fun x48 =>
              tif x48 (
                some (0, [(.bool false)])) (
                (gcall G none 104 [(e34.getD 1 .undef), (.int 1)] 1).bind fun e49 =>
                (gev none (.icm .lss) [(e49.getD 0 .undef), (.int 0)]).bind fun x50 =>
                tif x50 (
                  some (0, [(.bool false)])) (
                  (gev none (.icm .neq) [(e49.getD 0 .undef), (e34.getD 0 .undef)]).bind fun x51 =>
                  tif x51 (
                    some (0, [(.bool false)])) (
                    some (0, [(.bool true)]))))))))))
theorem eq166 {G : Told} {fuel : Nat} (x0 x1 x2 : D) : run G fuel T166 [x0, x1, x2] = S166 G fuel x0 x1 x2 := by
  rw [run_eq]; kernel_rfl

attribute [local irreducible] tif tjoin IntKind.wrap feq fadd fmul fsub fdiv fgt i2f sameP wide eqV vl il tl totL szM szP marksV marksT inr triP validP innerP longP rootP flt thk
set_option maxHeartbeats 4000000 in
theorem run156 {G : Told} (g19 : G 19 = F19) (g150 : G 150 = F150) : ∀ ds rs, F156 ds = some rs → ∃ fuel, run G fuel T156 ds = some (0, rs) := by
  intro ds rs h
  unfold F156 at h
  split at h
  case h_2 => cases h
  rename_i a b k
  obtain ⟨vs, ha, h⟩ := Option.bind_eq_some_iff.1 h
  obtain ⟨ts, hb, h⟩ := Option.bind_eq_some_iff.1 h
  rw [dV_inv ha, dT_inv hb]
  split at h
  case isFalse => cases h
  rename_i hc
  simp only [Option.some.injEq] at h
  subst h
  refine ⟨0, ?_⟩
  rw [eq156]
  unfold S156
  have hz : szM vs ts = vs.length + ts.length + totL ts := by unfold szM; rfl
  have hv := F150_m hc
  have hm := len_tl (l := ts)
  have hs := sub1 (n := ts.length) (by omega) (by omega)
  have hf := F19_in k ts.length
  cases hval : validP vs.length ts
  · rw [hval] at hv
    rw [Bool.false_and]
    repeat' first
      | with_reducible refine st_ift ?_
      | with_reducible refine st_iff ?_
      | ((with_reducible apply st_call); exact g150; exact rfl; exact hv; exact rfl)
      | ((with_reducible apply st_callt); assumption; exact rfl; exact rfl; assumption)
      | ((with_reducible apply st_callf); assumption; exact rfl; exact rfl; assumption)
      | ((with_reducible apply st_call); assumption; exact rfl; exact rfl; exact rfl)
      | ((with_reducible apply st_wide); exact rfl; exact rfl)
      | ((with_reducible apply st_skip); exact rfl)
      | ((with_reducible apply st_t); exact rfl; exact rfl)
      | ((with_reducible apply st_f); exact rfl; exact rfl)
      | ((with_reducible apply st_t); exact rfl; assumption)
      | ((with_reducible apply st_f); exact rfl; assumption)
      | ((with_reducible apply st_some); exact rfl)
      | exact rfl
  · rw [hval] at hv
    rw [Bool.true_and]
    generalize inr ts.length k = w at hf
    repeat' first
      | with_reducible refine st_ift ?_
      | with_reducible refine st_iff ?_
      | ((with_reducible apply st_call); exact g150; exact rfl; exact hv; exact rfl)
      | ((with_reducible apply st_call); exact g19; exact rfl; exact hf; exact rfl)
      | ((with_reducible apply st_some); exact hm)
      | ((with_reducible apply st_some); exact hs)
      | ((with_reducible apply st_callt); assumption; exact rfl; exact rfl; assumption)
      | ((with_reducible apply st_callf); assumption; exact rfl; exact rfl; assumption)
      | ((with_reducible apply st_call); assumption; exact rfl; exact rfl; exact rfl)
      | ((with_reducible apply st_wide); exact rfl; exact rfl)
      | ((with_reducible apply st_skip); exact rfl)
      | ((with_reducible apply st_t); exact rfl; exact rfl)
      | ((with_reducible apply st_f); exact rfl; exact rfl)
      | ((with_reducible apply st_t); exact rfl; assumption)
      | ((with_reducible apply st_f); exact rfl; assumption)
      | ((with_reducible apply st_some); exact rfl)
      | exact rfl
set_option maxHeartbeats 4000000 in
theorem run158 {G : Told} : ∀ ds rs, F158 ds = some rs → ∃ fuel, run G fuel T158 ds = some (0, rs) := by
  intro ds rs h
  unfold F158 at h
  split at h <;> simp only [Option.some.injEq, reduceCtorEq] at h
  subst h
  refine ⟨0, ?_⟩
  rw [eq158]
  unfold S158
  repeat' first
    | with_reducible refine st_ift ?_
    | with_reducible refine st_iff ?_
    | ((with_reducible apply st_callt); assumption; exact rfl; exact rfl; assumption)
    | ((with_reducible apply st_callf); assumption; exact rfl; exact rfl; assumption)
    | ((with_reducible apply st_call); assumption; exact rfl; exact rfl; exact rfl)
    | ((with_reducible apply st_wide); exact rfl; exact rfl)
    | ((with_reducible apply st_skip); exact rfl)
    | ((with_reducible apply st_t); exact rfl; exact rfl)
    | ((with_reducible apply st_f); exact rfl; exact rfl)
    | ((with_reducible apply st_t); exact rfl; assumption)
    | ((with_reducible apply st_f); exact rfl; assumption)
    | ((with_reducible apply st_some); exact rfl)
    | exact rfl
set_option maxHeartbeats 4000000 in
theorem run160 {G : Told} (g13 : G 13 = F13) (g158 : G 158 = F158) : ∀ ds rs, F160 ds = some rs → ∃ fuel, run G fuel T160 ds = some (0, rs) := by
  intro ds rs h
  unfold F160 at h
  split at h
  case h_2 => cases h
  rename_i a b c
  obtain ⟨vs, ha, h⟩ := Option.bind_eq_some_iff.1 h
  obtain ⟨t, hb, h⟩ := Option.bind_eq_some_iff.1 h
  rw [dV_inv ha, dI_inv hb]
  obtain ⟨⟨a', b', c'⟩, hcn, h⟩ := Option.map_eq_some_iff.1 h
  obtain ⟨p, q, r, rfl, hp, hq, hr, rfl, rfl, rfl⟩ := corner_inv hcn
  subst h
  refine ⟨0, ?_⟩
  rw [eq160]
  unfold S160
  clear hcn
  have x0 : gev none .idx [il [p, q, r], .int 0] = some (.int p) := idx_il (l := [p, q, r]) (i := 0) (by simp)
  have x1 : gev none .idx [il [p, q, r], .int 1] = some (.int q) := idx_il (l := [p, q, r]) (i := 1) (by simp)
  have x2 : gev none .idx [il [p, q, r], .int 2] = some (.int r) := idx_il (l := [p, q, r]) (i := 2) (by simp)
  have y0 := idx_plc hp
  have y1 := idx_plc hq
  have y2 := idx_plc hr
  generalize plc vs p = a at *
  generalize plc vs q = b at *
  generalize plc vs r = c at *
  have l1 : F13 [.flt b.x, .flt b.y, .flt b.z, .flt a.x, .flt a.y, .flt a.z] = some [.flt (lessV b a).x, .flt (lessV b a).y, .flt (lessV b a).z] := rfl
  have l2 : F13 [.flt c.x, .flt c.y, .flt c.z, .flt a.x, .flt a.y, .flt a.z] = some [.flt (lessV c a).x, .flt (lessV c a).y, .flt (lessV c a).z] := rfl
  have lx : F158 [.flt (lessV b a).x, .flt (lessV b a).y, .flt (lessV b a).z, .flt (lessV c a).x, .flt (lessV c a).y, .flt (lessV c a).z] = some [.flt (normT a b c).x, .flt (normT a b c).y, .flt (normT a b c).z] := rfl
  unfold nds
  generalize normT a b c = n at *
  generalize lessV b a = u at *
  generalize lessV c a = w at *
  repeat' first
    | with_reducible refine st_ift ?_
    | with_reducible refine st_iff ?_
    | ((with_reducible apply st_call); exact g13; exact rfl; exact l1; exact rfl)
    | ((with_reducible apply st_call); exact g13; exact rfl; exact l2; exact rfl)
    | ((with_reducible apply st_call); exact g158; exact rfl; exact lx; exact rfl)
    | ((with_reducible apply st_some); exact x0)
    | ((with_reducible apply st_some); exact x1)
    | ((with_reducible apply st_some); exact x2)
    | ((with_reducible apply st_some); exact y0)
    | ((with_reducible apply st_some); exact y1)
    | ((with_reducible apply st_some); exact y2)
    | ((with_reducible apply st_callt); assumption; exact rfl; exact rfl; assumption)
    | ((with_reducible apply st_callf); assumption; exact rfl; exact rfl; assumption)
    | ((with_reducible apply st_call); assumption; exact rfl; exact rfl; exact rfl)
    | ((with_reducible apply st_wide); exact rfl; exact rfl)
    | ((with_reducible apply st_skip); exact rfl)
    | ((with_reducible apply st_t); exact rfl; exact rfl)
    | ((with_reducible apply st_f); exact rfl; exact rfl)
    | ((with_reducible apply st_t); exact rfl; assumption)
    | ((with_reducible apply st_f); exact rfl; assumption)
    | ((with_reducible apply st_some); exact rfl)
    | exact rfl
set_option maxHeartbeats 4000000 in
theorem run159 {G : Told} (g13 : G 13 = F13) (g158 : G 158 = F158) : ∀ ds rs, F159 ds = some rs → ∃ fuel, run G fuel T159 ds = some (0, rs) := by
  intro ds rs h
  unfold F159 at h
  split at h
  case h_2 => cases h
  rename_i a b k
  obtain ⟨vs, ha, h⟩ := Option.bind_eq_some_iff.1 h
  obtain ⟨ts, hb, h⟩ := Option.bind_eq_some_iff.1 h
  rw [dV_inv ha, dT_inv hb]
  split at h
  case isFalse => cases h
  rename_i hc
  obtain ⟨i, rfl⟩ : ∃ i : Nat, k = i := ⟨k.toNat, by omega⟩
  have hi : i < ts.length := by omega
  rw [Int.toNat_natCast, getD_lt hi] at h
  have xt := idx_tl hi
  obtain ⟨⟨a', b', c'⟩, hcn, h⟩ := Option.map_eq_some_iff.1 h
  have hcn' := hcn
  obtain ⟨p, q, r, et, hp, hq, hr, rfl, rfl, rfl⟩ := corner_inv hcn
  rw [et] at xt
  subst h
  refine ⟨0, ?_⟩
  rw [eq159]
  unfold S159
  clear hcn hcn'
  have x0 : gev none .idx [il [p, q, r], .int 0] = some (.int p) := idx_il (l := [p, q, r]) (i := 0) (by simp)
  have x1 : gev none .idx [il [p, q, r], .int 1] = some (.int q) := idx_il (l := [p, q, r]) (i := 1) (by simp)
  have x2 : gev none .idx [il [p, q, r], .int 2] = some (.int r) := idx_il (l := [p, q, r]) (i := 2) (by simp)
  have y0 := idx_plc hp
  have y1 := idx_plc hq
  have y2 := idx_plc hr
  generalize plc vs p = a at *
  generalize plc vs q = b at *
  generalize plc vs r = c at *
  have l1 : F13 [.flt b.x, .flt b.y, .flt b.z, .flt a.x, .flt a.y, .flt a.z] = some [.flt (lessV b a).x, .flt (lessV b a).y, .flt (lessV b a).z] := rfl
  have l2 : F13 [.flt c.x, .flt c.y, .flt c.z, .flt a.x, .flt a.y, .flt a.z] = some [.flt (lessV c a).x, .flt (lessV c a).y, .flt (lessV c a).z] := rfl
  have lx : F158 [.flt (lessV b a).x, .flt (lessV b a).y, .flt (lessV b a).z, .flt (lessV c a).x, .flt (lessV c a).y, .flt (lessV c a).z] = some [.flt (normT a b c).x, .flt (normT a b c).y, .flt (normT a b c).z] := rfl
  unfold nds
  generalize normT a b c = n at *
  generalize lessV b a = u at *
  generalize lessV c a = w at *
  repeat' first
    | with_reducible refine st_ift ?_
    | with_reducible refine st_iff ?_
    | ((with_reducible apply st_some); exact xt)
    | ((with_reducible apply st_call); exact g13; exact rfl; exact l1; exact rfl)
    | ((with_reducible apply st_call); exact g13; exact rfl; exact l2; exact rfl)
    | ((with_reducible apply st_call); exact g158; exact rfl; exact lx; exact rfl)
    | ((with_reducible apply st_some); exact x0)
    | ((with_reducible apply st_some); exact x1)
    | ((with_reducible apply st_some); exact x2)
    | ((with_reducible apply st_some); exact y0)
    | ((with_reducible apply st_some); exact y1)
    | ((with_reducible apply st_some); exact y2)
    | ((with_reducible apply st_callt); assumption; exact rfl; exact rfl; assumption)
    | ((with_reducible apply st_callf); assumption; exact rfl; exact rfl; assumption)
    | ((with_reducible apply st_call); assumption; exact rfl; exact rfl; exact rfl)
    | ((with_reducible apply st_wide); exact rfl; exact rfl)
    | ((with_reducible apply st_skip); exact rfl)
    | ((with_reducible apply st_t); exact rfl; exact rfl)
    | ((with_reducible apply st_f); exact rfl; exact rfl)
    | ((with_reducible apply st_t); exact rfl; assumption)
    | ((with_reducible apply st_f); exact rfl; assumption)
    | ((with_reducible apply st_some); exact rfl)
    | exact rfl
set_option maxHeartbeats 4000000 in
theorem run161 {G : Told} (g13 : G 13 = F13) (g14 : G 14 = F14) (g15 : G 15 = F15) (g159 : G 159 = F159) : ∀ ds rs, F161 ds = some rs → ∃ fuel, run G fuel T161 ds = some (0, rs) := by
  intro ds rs h
  unfold F161 at h
  split at h
  case h_2 => cases h
  rename_i a b k
  obtain ⟨vs, ha, h⟩ := Option.bind_eq_some_iff.1 h
  obtain ⟨ts, hb, h⟩ := Option.bind_eq_some_iff.1 h
  rw [dV_inv ha, dT_inv hb]
  split at h
  case isFalse => cases h
  rename_i hc
  obtain ⟨i, rfl⟩ : ∃ i : Nat, k = i := ⟨k.toNat, by omega⟩
  have hi : i < ts.length := by omega
  rw [Int.toNat_natCast, getD_lt hi] at h
  have xt := idx_tl hi
  obtain ⟨⟨a', b', c'⟩, hcn, h⟩ := Option.map_eq_some_iff.1 h
  have hcn' := hcn
  obtain ⟨p, q, r, et, hp, hq, hr, rfl, rfl, rfl⟩ := corner_inv hcn
  rw [et] at xt
  subst h
  refine ⟨0, ?_⟩
  rw [eq161]
  unfold S161
  have fn := F159_m hi hcn'
  clear hcn hcn'
  have x0 : gev none .idx [il [p, q, r], .int 0] = some (.int p) := idx_il (l := [p, q, r]) (i := 0) (by simp)
  have x1 : gev none .idx [il [p, q, r], .int 1] = some (.int q) := idx_il (l := [p, q, r]) (i := 1) (by simp)
  have x2 : gev none .idx [il [p, q, r], .int 2] = some (.int r) := idx_il (l := [p, q, r]) (i := 2) (by simp)
  have y0 := idx_plc hp
  have y1 := idx_plc hq
  have y2 := idx_plc hr
  generalize plc vs p = a at *
  generalize plc vs q = b at *
  generalize plc vs r = c at *
  have l1 : F13 [.flt b.x, .flt b.y, .flt b.z, .flt a.x, .flt a.y, .flt a.z] = some [.flt (lessV b a).x, .flt (lessV b a).y, .flt (lessV b a).z] := rfl
  have l2 : F13 [.flt c.x, .flt c.y, .flt c.z, .flt b.x, .flt b.y, .flt b.z] = some [.flt (lessV c b).x, .flt (lessV c b).y, .flt (lessV c b).z] := rfl
  have l3 : F13 [.flt a.x, .flt a.y, .flt a.z, .flt c.x, .flt c.y, .flt c.z] = some [.flt (lessV a c).x, .flt (lessV a c).y, .flt (lessV a c).z] := rfl
  have i1 : F14 [.flt (lessV b a).x, .flt (lessV b a).y, .flt (lessV b a).z, .flt (lessV b a).x, .flt (lessV b a).y, .flt (lessV b a).z] = some [.flt (dotV (lessV b a) (lessV b a))] := rfl
  have i2 : F14 [.flt (lessV c b).x, .flt (lessV c b).y, .flt (lessV c b).z, .flt (lessV c b).x, .flt (lessV c b).y, .flt (lessV c b).z] = some [.flt (dotV (lessV c b) (lessV c b))] := rfl
  have i3 : F14 [.flt (lessV a c).x, .flt (lessV a c).y, .flt (lessV a c).z, .flt (lessV a c).x, .flt (lessV a c).y, .flt (lessV a c).z] = some [.flt (dotV (lessV a c) (lessV a c))] := rfl
  have ln : F15 [.flt (normT a b c).x, .flt (normT a b c).y, .flt (normT a b c).z] = some [.flt (longV (normT a b c))] := rfl
  unfold thickP
  unfold nds at fn
  generalize longV (normT a b c) = lg at *
  generalize normT a b c = n at *
  generalize dotV (lessV b a) (lessV b a) = e1 at *
  generalize dotV (lessV c b) (lessV c b) = e2 at *
  generalize dotV (lessV a c) (lessV a c) = e3 at *
  generalize lessV b a = u1 at *
  generalize lessV c b = u2 at *
  generalize lessV a c = u3 at *
  repeat' first
    | with_reducible refine st_ift ?_
    | with_reducible refine st_iff ?_
    | ((with_reducible apply st_some); exact xt)
    | ((with_reducible apply st_call); exact g159; exact rfl; exact fn; exact rfl)
    | ((with_reducible apply st_call); exact g13; exact rfl; exact l1; exact rfl)
    | ((with_reducible apply st_call); exact g13; exact rfl; exact l2; exact rfl)
    | ((with_reducible apply st_call); exact g13; exact rfl; exact l3; exact rfl)
    | ((with_reducible apply st_call); exact g14; exact rfl; exact i1; exact rfl)
    | ((with_reducible apply st_call); exact g14; exact rfl; exact i2; exact rfl)
    | ((with_reducible apply st_call); exact g14; exact rfl; exact i3; exact rfl)
    | ((with_reducible apply st_call); exact g15; exact rfl; exact ln; exact rfl)
    | ((with_reducible apply st_some); exact x0)
    | ((with_reducible apply st_some); exact x1)
    | ((with_reducible apply st_some); exact x2)
    | ((with_reducible apply st_some); exact y0)
    | ((with_reducible apply st_some); exact y1)
    | ((with_reducible apply st_some); exact y2)
    | ((with_reducible apply st_callt); assumption; exact rfl; exact rfl; assumption)
    | ((with_reducible apply st_callf); assumption; exact rfl; exact rfl; assumption)
    | ((with_reducible apply st_call); assumption; exact rfl; exact rfl; exact rfl)
    | ((with_reducible apply st_wide); exact rfl; exact rfl)
    | ((with_reducible apply st_skip); exact rfl)
    | ((with_reducible apply st_t); exact rfl; exact rfl)
    | ((with_reducible apply st_f); exact rfl; exact rfl)
    | ((with_reducible apply st_t); exact rfl; assumption)
    | ((with_reducible apply st_f); exact rfl; assumption)
    | ((with_reducible apply st_some); exact rfl)
    | exact rfl
set_option maxHeartbeats 4000000 in
theorem run162 {G : Told} (g13 : G 13 = F13) (g14 : G 14 = F14) (g15 : G 15 = F15) (g160 : G 160 = F160) : ∀ ds rs, F162 ds = some rs → ∃ fuel, run G fuel T162 ds = some (0, rs) := by
  intro ds rs h
  unfold F162 at h
  split at h
  case h_2 => cases h
  rename_i a b c
  obtain ⟨vs, ha, h⟩ := Option.bind_eq_some_iff.1 h
  obtain ⟨t, hb, h⟩ := Option.bind_eq_some_iff.1 h
  rw [dV_inv ha, dI_inv hb]
  obtain ⟨⟨a', b', c'⟩, hcn, h⟩ := Option.map_eq_some_iff.1 h
  obtain ⟨p, q, r, rfl, hp, hq, hr, rfl, rfl, rfl⟩ := corner_inv hcn
  subst h
  refine ⟨4, ?_⟩
  rw [eq162]
  unfold S162
  have fn := F160_m (b := b) hcn
  clear hcn
  generalize b = z at *
  have x0 : gev none .idx [il [p, q, r], .int 0] = some (.int p) := idx_il (l := [p, q, r]) (i := 0) (by simp)
  have x1 : gev none .idx [il [p, q, r], .int 1] = some (.int q) := idx_il (l := [p, q, r]) (i := 1) (by simp)
  have x2 : gev none .idx [il [p, q, r], .int 2] = some (.int r) := idx_il (l := [p, q, r]) (i := 2) (by simp)
  have y0 := idx_plc hp
  have y1 := idx_plc hq
  have y2 := idx_plc hr
  generalize plc vs p = a at *
  generalize plc vs q = b at *
  generalize plc vs r = c at *
  have l1 : F13 [.flt b.x, .flt b.y, .flt b.z, .flt a.x, .flt a.y, .flt a.z] = some [.flt (lessV b a).x, .flt (lessV b a).y, .flt (lessV b a).z] := rfl
  have l2 : F13 [.flt c.x, .flt c.y, .flt c.z, .flt b.x, .flt b.y, .flt b.z] = some [.flt (lessV c b).x, .flt (lessV c b).y, .flt (lessV c b).z] := rfl
  have l3 : F13 [.flt a.x, .flt a.y, .flt a.z, .flt c.x, .flt c.y, .flt c.z] = some [.flt (lessV a c).x, .flt (lessV a c).y, .flt (lessV a c).z] := rfl
  have i1 : F14 [.flt (lessV b a).x, .flt (lessV b a).y, .flt (lessV b a).z, .flt (lessV b a).x, .flt (lessV b a).y, .flt (lessV b a).z] = some [.flt (dotV (lessV b a) (lessV b a))] := rfl
  have i2 : F14 [.flt (lessV c b).x, .flt (lessV c b).y, .flt (lessV c b).z, .flt (lessV c b).x, .flt (lessV c b).y, .flt (lessV c b).z] = some [.flt (dotV (lessV c b) (lessV c b))] := rfl
  have i3 : F14 [.flt (lessV a c).x, .flt (lessV a c).y, .flt (lessV a c).z, .flt (lessV a c).x, .flt (lessV a c).y, .flt (lessV a c).z] = some [.flt (dotV (lessV a c) (lessV a c))] := rfl
  have ln : F15 [.flt (normT a b c).x, .flt (normT a b c).y, .flt (normT a b c).z] = some [.flt (longV (normT a b c))] := rfl
  unfold thickP
  unfold nds at fn
  generalize longV (normT a b c) = lg at *
  generalize normT a b c = n at *
  generalize dotV (lessV b a) (lessV b a) = e1 at *
  generalize dotV (lessV c b) (lessV c b) = e2 at *
  generalize dotV (lessV a c) (lessV a c) = e3 at *
  generalize lessV b a = u1 at *
  generalize lessV c b = u2 at *
  generalize lessV a c = u3 at *
  have hv3 : (.lst [.agg [.flt u1.x, .flt u1.y, .flt u1.z], .agg [.flt u2.x, .flt u2.y, .flt u2.z], .agg [.flt u3.x, .flt u3.y, .flt u3.z]] : D) = vl [u1, u2, u3] := by unfold vl; rfl
  have hml : gev none .mklst [.agg [.flt u1.x, .flt u1.y, .flt u1.z], .agg [.flt u2.x, .flt u2.y, .flt u2.z], .agg [.flt u3.x, .flt u3.y, .flt u3.z]] = some (vl [u1, u2, u3]) := by rw [← hv3]; rfl
  have hn3 : gev none .len [vl [u1, u2, u3]] = some (.int 3) := len_vl (l := [u1, u2, u3])
  have w0 : gev none .idx [vl [u1, u2, u3], .int 0] = some (vec u1) := idx_vl (l := [u1, u2, u3]) (i := 0) (by simp)
  have w1 : gev none .idx [vl [u1, u2, u3], .int 1] = some (vec u2) := idx_vl (l := [u1, u2, u3]) (i := 1) (by simp)
  have w2 : gev none .idx [vl [u1, u2, u3], .int 2] = some (vec u3) := idx_vl (l := [u1, u2, u3]) (i := 2) (by simp)
  have a0 := add1n (i := 0) (by omega)
  have a1 := add1n (i := 1) (by omega)
  have a2 := add1n (i := 2) (by omega)
  have hloop : iter (tbody 2 (S162L0 G (vl [u1, u2, u3]) (.int 3))) 4 [.flt 0, .int 0] = some (0, [.flt (fadd .f32 (fadd .f32 e1 e2) e3), .int 3, .bool false]) := by
    refine iter_go (ds' := [.flt e1, .int 1]) (tb rfl ?_) ?_
    · unfold S162L0
      repeat' first
        | with_reducible refine st_ift ?_
        | with_reducible refine st_iff ?_
        | ((with_reducible apply st_some); exact w0)
        | ((with_reducible apply st_some); exact w1)
        | ((with_reducible apply st_some); exact w2)
        | ((with_reducible apply st_some); exact a0)
        | ((with_reducible apply st_some); exact a1)
        | ((with_reducible apply st_some); exact a2)
        | ((with_reducible apply st_call); exact g14; exact rfl; exact i1; exact rfl)
        | ((with_reducible apply st_call); exact g14; exact rfl; exact i2; exact rfl)
        | ((with_reducible apply st_call); exact g14; exact rfl; exact i3; exact rfl)
        | (with_reducible refine st_join (ds := [.flt e1]) ?_ ?_ ?_)
        | ((with_reducible apply st_callt); assumption; exact rfl; exact rfl; assumption)
        | ((with_reducible apply st_callf); assumption; exact rfl; exact rfl; assumption)
        | ((with_reducible apply st_call); assumption; exact rfl; exact rfl; exact rfl)
        | ((with_reducible apply st_wide); exact rfl; exact rfl)
        | ((with_reducible apply st_skip); exact rfl)
        | ((with_reducible apply st_t); exact rfl; exact rfl)
        | ((with_reducible apply st_f); exact rfl; exact rfl)
        | ((with_reducible apply st_t); exact rfl; assumption)
        | ((with_reducible apply st_f); exact rfl; assumption)
        | ((with_reducible apply st_some); exact rfl)
        | exact rfl
    refine iter_go (ds' := [.flt (fadd .f32 e1 e2), .int 2]) (tb rfl ?_) ?_
    · unfold S162L0
      repeat' first
        | with_reducible refine st_ift ?_
        | with_reducible refine st_iff ?_
        | ((with_reducible apply st_some); exact w0)
        | ((with_reducible apply st_some); exact w1)
        | ((with_reducible apply st_some); exact w2)
        | ((with_reducible apply st_some); exact a0)
        | ((with_reducible apply st_some); exact a1)
        | ((with_reducible apply st_some); exact a2)
        | ((with_reducible apply st_call); exact g14; exact rfl; exact i1; exact rfl)
        | ((with_reducible apply st_call); exact g14; exact rfl; exact i2; exact rfl)
        | ((with_reducible apply st_call); exact g14; exact rfl; exact i3; exact rfl)
        | (with_reducible refine st_join (ds := [.flt (fadd .f32 e1 e2)]) ?_ ?_ ?_)
        | ((with_reducible apply st_callt); assumption; exact rfl; exact rfl; assumption)
        | ((with_reducible apply st_callf); assumption; exact rfl; exact rfl; assumption)
        | ((with_reducible apply st_call); assumption; exact rfl; exact rfl; exact rfl)
        | ((with_reducible apply st_wide); exact rfl; exact rfl)
        | ((with_reducible apply st_skip); exact rfl)
        | ((with_reducible apply st_t); exact rfl; exact rfl)
        | ((with_reducible apply st_f); exact rfl; exact rfl)
        | ((with_reducible apply st_t); exact rfl; assumption)
        | ((with_reducible apply st_f); exact rfl; assumption)
        | ((with_reducible apply st_some); exact rfl)
        | exact rfl
    refine iter_go (ds' := [.flt (fadd .f32 (fadd .f32 e1 e2) e3), .int 3]) (tb rfl ?_) ?_
    · unfold S162L0
      repeat' first
        | with_reducible refine st_ift ?_
        | with_reducible refine st_iff ?_
        | ((with_reducible apply st_some); exact w0)
        | ((with_reducible apply st_some); exact w1)
        | ((with_reducible apply st_some); exact w2)
        | ((with_reducible apply st_some); exact a0)
        | ((with_reducible apply st_some); exact a1)
        | ((with_reducible apply st_some); exact a2)
        | ((with_reducible apply st_call); exact g14; exact rfl; exact i1; exact rfl)
        | ((with_reducible apply st_call); exact g14; exact rfl; exact i2; exact rfl)
        | ((with_reducible apply st_call); exact g14; exact rfl; exact i3; exact rfl)
        | (with_reducible refine st_join (ds := [.flt (fadd .f32 (fadd .f32 e1 e2) e3)]) ?_ ?_ ?_)
        | ((with_reducible apply st_callt); assumption; exact rfl; exact rfl; assumption)
        | ((with_reducible apply st_callf); assumption; exact rfl; exact rfl; assumption)
        | ((with_reducible apply st_call); assumption; exact rfl; exact rfl; exact rfl)
        | ((with_reducible apply st_wide); exact rfl; exact rfl)
        | ((with_reducible apply st_skip); exact rfl)
        | ((with_reducible apply st_t); exact rfl; exact rfl)
        | ((with_reducible apply st_f); exact rfl; exact rfl)
        | ((with_reducible apply st_t); exact rfl; assumption)
        | ((with_reducible apply st_f); exact rfl; assumption)
        | ((with_reducible apply st_some); exact rfl)
        | exact rfl
    refine iter_end (l := 0) (ds' := [.flt (fadd .f32 (fadd .f32 e1 e2) e3), .int 3, .bool false]) (tb rfl ?_) rfl
    unfold S162L0
    repeat' first
      | with_reducible refine st_ift ?_
      | with_reducible refine st_iff ?_
      | ((with_reducible apply st_callt); assumption; exact rfl; exact rfl; assumption)
      | ((with_reducible apply st_callf); assumption; exact rfl; exact rfl; assumption)
      | ((with_reducible apply st_call); assumption; exact rfl; exact rfl; exact rfl)
      | ((with_reducible apply st_wide); exact rfl; exact rfl)
      | ((with_reducible apply st_skip); exact rfl)
      | ((with_reducible apply st_t); exact rfl; exact rfl)
      | ((with_reducible apply st_f); exact rfl; exact rfl)
      | ((with_reducible apply st_t); exact rfl; assumption)
      | ((with_reducible apply st_f); exact rfl; assumption)
      | ((with_reducible apply st_some); exact rfl)
      | exact rfl
  repeat' first
    | with_reducible refine st_ift ?_
    | with_reducible refine st_iff ?_
    | ((with_reducible apply st_join); exact hloop; exact rfl)
    | ((with_reducible apply st_some); exact hml)
    | ((with_reducible apply st_some); exact hn3)
    | ((with_reducible apply st_call); exact g160; exact rfl; exact fn; exact rfl)
    | ((with_reducible apply st_call); exact g13; exact rfl; exact l1; exact rfl)
    | ((with_reducible apply st_call); exact g13; exact rfl; exact l2; exact rfl)
    | ((with_reducible apply st_call); exact g13; exact rfl; exact l3; exact rfl)
    | ((with_reducible apply st_call); exact g14; exact rfl; exact i1; exact rfl)
    | ((with_reducible apply st_call); exact g14; exact rfl; exact i2; exact rfl)
    | ((with_reducible apply st_call); exact g14; exact rfl; exact i3; exact rfl)
    | ((with_reducible apply st_call); exact g15; exact rfl; exact ln; exact rfl)
    | ((with_reducible apply st_some); exact x0)
    | ((with_reducible apply st_some); exact x1)
    | ((with_reducible apply st_some); exact x2)
    | ((with_reducible apply st_some); exact y0)
    | ((with_reducible apply st_some); exact y1)
    | ((with_reducible apply st_some); exact y2)
    | ((with_reducible apply st_callt); assumption; exact rfl; exact rfl; assumption)
    | ((with_reducible apply st_callf); assumption; exact rfl; exact rfl; assumption)
    | ((with_reducible apply st_call); assumption; exact rfl; exact rfl; exact rfl)
    | ((with_reducible apply st_wide); exact rfl; exact rfl)
    | ((with_reducible apply st_skip); exact rfl)
    | ((with_reducible apply st_t); exact rfl; exact rfl)
    | ((with_reducible apply st_f); exact rfl; exact rfl)
    | ((with_reducible apply st_t); exact rfl; assumption)
    | ((with_reducible apply st_f); exact rfl; assumption)
    | ((with_reducible apply st_some); exact rfl)
    | exact rfl
set_option maxHeartbeats 4000000 in
theorem run163 {G : Told} (g156 : G 156 = F156) (g162 : G 162 = F162) : ∀ ds rs, F163 ds = some rs → ∃ fuel, run G fuel T163 ds = some (0, rs) := by
  intro ds rs h
  unfold F163 at h
  split at h
  case h_2 => cases h
  rename_i a b k
  obtain ⟨vs, ha, h⟩ := Option.bind_eq_some_iff.1 h
  obtain ⟨ts, hb, h⟩ := Option.bind_eq_some_iff.1 h
  rw [dV_inv ha, dT_inv hb]
  split at h
  case isFalse => cases h
  rename_i hc
  simp only [Option.some.injEq] at h
  subst h
  refine ⟨0, ?_⟩
  rw [eq163]
  unfold S163
  have hv := F156_m (i := k) hc
  cases hval : (validP vs.length ts && inr ts.length k)
  · rw [hval] at hv
    rw [if_neg (by simp)]
    repeat' first
      | with_reducible refine st_ift ?_
      | with_reducible refine st_iff ?_
      | ((with_reducible apply st_call); exact g156; exact rfl; exact hv; exact rfl)
      | ((with_reducible apply st_callt); assumption; exact rfl; exact rfl; assumption)
      | ((with_reducible apply st_callf); assumption; exact rfl; exact rfl; assumption)
      | ((with_reducible apply st_call); assumption; exact rfl; exact rfl; exact rfl)
      | ((with_reducible apply st_wide); exact rfl; exact rfl)
      | ((with_reducible apply st_skip); exact rfl)
      | ((with_reducible apply st_t); exact rfl; exact rfl)
      | ((with_reducible apply st_f); exact rfl; exact rfl)
      | ((with_reducible apply st_t); exact rfl; assumption)
      | ((with_reducible apply st_f); exact rfl; assumption)
      | ((with_reducible apply st_some); exact rfl)
      | exact rfl
  · rw [hval] at hv
    rw [if_pos rfl]
    simp only [Bool.and_eq_true] at hval
    have hk := hval.2
    unfold inr at hk
    simp only [Bool.and_eq_true, decide_eq_true_eq] at hk
    obtain ⟨i, rfl⟩ : ∃ i : Nat, k = i := ⟨k.toNat, by omega⟩
    have hi : i < ts.length := by omega
    rw [Int.toNat_natCast]
    obtain ⟨p, q, r, hcn⟩ := corner_ok hval.1 hi
    rw [thk_eq hi hcn]
    have hf := F162_m (b := tl ts) hcn
    have hx := idx_tl hi
    repeat' first
      | with_reducible refine st_ift ?_
      | with_reducible refine st_iff ?_
      | ((with_reducible apply st_call); exact g156; exact rfl; exact hv; exact rfl)
      | ((with_reducible apply st_call); exact g162; exact rfl; exact hf; exact rfl)
      | ((with_reducible apply st_some); exact hx)
      | ((with_reducible apply st_callt); assumption; exact rfl; exact rfl; assumption)
      | ((with_reducible apply st_callf); assumption; exact rfl; exact rfl; assumption)
      | ((with_reducible apply st_call); assumption; exact rfl; exact rfl; exact rfl)
      | ((with_reducible apply st_wide); exact rfl; exact rfl)
      | ((with_reducible apply st_skip); exact rfl)
      | ((with_reducible apply st_t); exact rfl; exact rfl)
      | ((with_reducible apply st_f); exact rfl; exact rfl)
      | ((with_reducible apply st_t); exact rfl; assumption)
      | ((with_reducible apply st_f); exact rfl; assumption)
      | ((with_reducible apply st_some); exact rfl)
      | exact rfl
set_option maxHeartbeats 4000000 in
theorem run163s {G : Told} (g19 : G 19 = F19) (g150 : G 150 = F150) (g161 : G 161 = F161) : ∀ ds rs, F163 ds = some rs → ∃ fuel, run G fuel T163s ds = some (0, rs) := by
  intro ds rs h
  unfold F163 at h
  split at h
  case h_2 => cases h
  rename_i a b k
  obtain ⟨vs, ha, h⟩ := Option.bind_eq_some_iff.1 h
  obtain ⟨ts, hb, h⟩ := Option.bind_eq_some_iff.1 h
  rw [dV_inv ha, dT_inv hb]
  split at h
  case isFalse => cases h
  rename_i hc
  simp only [Option.some.injEq] at h
  subst h
  refine ⟨0, ?_⟩
  rw [eq163s]
  unfold S163s
  have hz : szM vs ts = vs.length + ts.length + totL ts := by unfold szM; rfl
  have hv := F150_m hc
  have hm := len_tl (l := ts)
  have hs := sub1 (n := ts.length) (by omega) (by omega)
  have hf := F19_in k ts.length
  cases hval : validP vs.length ts
  · rw [hval] at hv
    rw [Bool.false_and, if_neg (by simp)]
    repeat' first
      | with_reducible refine st_ift ?_
      | with_reducible refine st_iff ?_
      | ((with_reducible apply st_call); exact g150; exact rfl; exact hv; exact rfl)
      | ((with_reducible apply st_callt); assumption; exact rfl; exact rfl; assumption)
      | ((with_reducible apply st_callf); assumption; exact rfl; exact rfl; assumption)
      | ((with_reducible apply st_call); assumption; exact rfl; exact rfl; exact rfl)
      | ((with_reducible apply st_wide); exact rfl; exact rfl)
      | ((with_reducible apply st_skip); exact rfl)
      | ((with_reducible apply st_t); exact rfl; exact rfl)
      | ((with_reducible apply st_f); exact rfl; exact rfl)
      | ((with_reducible apply st_t); exact rfl; assumption)
      | ((with_reducible apply st_f); exact rfl; assumption)
      | ((with_reducible apply st_some); exact rfl)
      | exact rfl
  · rw [hval] at hv
    rw [Bool.true_and]
    cases hin : inr ts.length k
    · rw [hin] at hf
      rw [if_neg (by simp)]
      repeat' first
        | with_reducible refine st_ift ?_
        | with_reducible refine st_iff ?_
        | ((with_reducible apply st_call); exact g150; exact rfl; exact hv; exact rfl)
        | ((with_reducible apply st_call); exact g19; exact rfl; exact hf; exact rfl)
        | ((with_reducible apply st_some); exact hm)
        | ((with_reducible apply st_some); exact hs)
        | ((with_reducible apply st_callt); assumption; exact rfl; exact rfl; assumption)
        | ((with_reducible apply st_callf); assumption; exact rfl; exact rfl; assumption)
        | ((with_reducible apply st_call); assumption; exact rfl; exact rfl; exact rfl)
        | ((with_reducible apply st_wide); exact rfl; exact rfl)
        | ((with_reducible apply st_skip); exact rfl)
        | ((with_reducible apply st_t); exact rfl; exact rfl)
        | ((with_reducible apply st_f); exact rfl; exact rfl)
        | ((with_reducible apply st_t); exact rfl; assumption)
        | ((with_reducible apply st_f); exact rfl; assumption)
        | ((with_reducible apply st_some); exact rfl)
        | exact rfl
    · rw [hin] at hf
      rw [if_pos rfl]
      have hk := hin
      unfold inr at hk
      simp only [Bool.and_eq_true, decide_eq_true_eq] at hk
      obtain ⟨i, rfl⟩ : ∃ i : Nat, k = i := ⟨k.toNat, by omega⟩
      have hi : i < ts.length := by omega
      rw [Int.toNat_natCast]
      obtain ⟨p, q, r, hcn⟩ := corner_ok hval hi
      rw [thk_eq hi hcn]
      have ht := F161_m hi hcn
      repeat' first
        | with_reducible refine st_ift ?_
        | with_reducible refine st_iff ?_
        | ((with_reducible apply st_call); exact g150; exact rfl; exact hv; exact rfl)
        | ((with_reducible apply st_call); exact g19; exact rfl; exact hf; exact rfl)
        | ((with_reducible apply st_call); exact g161; exact rfl; exact ht; exact rfl)
        | ((with_reducible apply st_some); exact hm)
        | ((with_reducible apply st_some); exact hs)
        | ((with_reducible apply st_callt); assumption; exact rfl; exact rfl; assumption)
        | ((with_reducible apply st_callf); assumption; exact rfl; exact rfl; assumption)
        | ((with_reducible apply st_call); assumption; exact rfl; exact rfl; exact rfl)
        | ((with_reducible apply st_wide); exact rfl; exact rfl)
        | ((with_reducible apply st_skip); exact rfl)
        | ((with_reducible apply st_t); exact rfl; exact rfl)
        | ((with_reducible apply st_f); exact rfl; exact rfl)
        | ((with_reducible apply st_t); exact rfl; assumption)
        | ((with_reducible apply st_f); exact rfl; assumption)
        | ((with_reducible apply st_some); exact rfl)
        | exact rfl
set_option maxHeartbeats 4000000 in
theorem run164 {G : Told} (g4 : G 4 = F4) (g142 : G 142 = F142) (g145 : G 145 = F145) (g146 : G 146 = F146) (g163 : G 163 = F163) : ∀ ds rs, F164 ds = some rs → ∃ fuel, run G fuel T164 ds = some (0, rs) := by
  intro ds rs h
  unfold F164 at h
  split at h
  case h_2 => cases h
  rename_i a b k
  obtain ⟨vs, ha, h⟩ := Option.bind_eq_some_iff.1 h
  obtain ⟨ts, hb, h⟩ := Option.bind_eq_some_iff.1 h
  rw [dV_inv ha, dT_inv hb]
  split at h
  case isFalse => cases h
  rename_i hc
  simp only [Option.some.injEq] at h
  subst h
  refine ⟨0, ?_⟩
  rw [eq164]
  unfold S164
  have z1 := F142_m hc
  by_cases hsz : szM vs ts ≤ 1048576
  case neg =>
    rw [szP_neg hsz] at z1
    repeat' first
      | with_reducible refine st_ift ?_
      | with_reducible refine st_iff ?_
      | ((with_reducible apply st_call); exact g142; exact rfl; exact z1; exact rfl)
      | ((with_reducible apply st_callt); assumption; exact rfl; exact rfl; assumption)
      | ((with_reducible apply st_callf); assumption; exact rfl; exact rfl; assumption)
      | ((with_reducible apply st_call); assumption; exact rfl; exact rfl; exact rfl)
      | ((with_reducible apply st_wide); exact rfl; exact rfl)
      | ((with_reducible apply st_skip); exact rfl)
      | ((with_reducible apply st_t); exact rfl; exact rfl)
      | ((with_reducible apply st_f); exact rfl; exact rfl)
      | ((with_reducible apply st_t); exact rfl; assumption)
      | ((with_reducible apply st_f); exact rfl; assumption)
      | ((with_reducible apply st_some); exact rfl)
      | exact rfl
  rw [szP_pos hsz] at z1
  have d1 : decide ((1048576 : Int) - (szM vs ts : Nat) < 0) = false := by simp; omega
  have t1 := F145_m hsz
  have q1 := F146_m hsz
  have hr : ∃ x b, F163 [vl vs, tl ts, .int k] = some [.flt x, .bool b] := by
    rw [F163_m hsz]
    split <;> exact ⟨_, _, rfl⟩
  obtain ⟨x, b, hr⟩ := hr
  have h4 : F4 [.flt (wide x), .flt (wide x)] = some [.bool true] := by simp only [F4, sameP_self]
  cases b
  · repeat' first
      | with_reducible refine st_ift ?_
      | with_reducible refine st_iff ?_
      | ((with_reducible apply st_call); exact g142; exact rfl; exact z1; exact rfl)
      | ((with_reducible apply st_call); exact g163; exact rfl; exact hr; exact rfl)
      | ((with_reducible apply st_call); exact g4; exact rfl; exact h4; exact rfl)
      | ((with_reducible apply st_call); exact g145; exact rfl; exact t1; exact rfl)
      | ((with_reducible apply st_call); exact g146; exact rfl; exact q1; exact rfl)
      | ((with_reducible apply st_callt); assumption; exact rfl; exact rfl; assumption)
      | ((with_reducible apply st_callf); assumption; exact rfl; exact rfl; assumption)
      | ((with_reducible apply st_call); assumption; exact rfl; exact rfl; exact rfl)
      | ((with_reducible apply st_wide); exact rfl; exact rfl)
      | ((with_reducible apply st_skip); exact rfl)
      | ((with_reducible apply st_t); exact rfl; exact rfl)
      | ((with_reducible apply st_f); exact rfl; exact rfl)
      | ((with_reducible apply st_t); exact rfl; assumption)
      | ((with_reducible apply st_f); exact rfl; assumption)
      | ((with_reducible apply st_some); exact rfl)
      | exact rfl
  · repeat' first
      | with_reducible refine st_ift ?_
      | with_reducible refine st_iff ?_
      | ((with_reducible apply st_call); exact g142; exact rfl; exact z1; exact rfl)
      | ((with_reducible apply st_call); exact g163; exact rfl; exact hr; exact rfl)
      | ((with_reducible apply st_call); exact g4; exact rfl; exact h4; exact rfl)
      | ((with_reducible apply st_call); exact g145; exact rfl; exact t1; exact rfl)
      | ((with_reducible apply st_call); exact g146; exact rfl; exact q1; exact rfl)
      | ((with_reducible apply st_callt); assumption; exact rfl; exact rfl; assumption)
      | ((with_reducible apply st_callf); assumption; exact rfl; exact rfl; assumption)
      | ((with_reducible apply st_call); assumption; exact rfl; exact rfl; exact rfl)
      | ((with_reducible apply st_wide); exact rfl; exact rfl)
      | ((with_reducible apply st_skip); exact rfl)
      | ((with_reducible apply st_t); exact rfl; exact rfl)
      | ((with_reducible apply st_f); exact rfl; exact rfl)
      | ((with_reducible apply st_t); exact rfl; assumption)
      | ((with_reducible apply st_f); exact rfl; assumption)
      | ((with_reducible apply st_some); exact rfl)
      | exact rfl
set_option maxHeartbeats 4000000 in
theorem run165 {G : Told} (g162 : G 162 = F162) (g150 : G 150 = F150) : ∀ ds rs, F165 ds = some rs → ∃ fuel, run G fuel T165 ds = some (0, rs) := by
  intro ds rs h
  unfold F165 at h
  split at h
  case h_2 => cases h
  rename_i a b k
  obtain ⟨vs, ha, h⟩ := Option.bind_eq_some_iff.1 h
  obtain ⟨ts, hb, h⟩ := Option.bind_eq_some_iff.1 h
  rw [dV_inv ha, dT_inv hb]
  split at h
  case isFalse => cases h
  rename_i hc
  simp only [Option.some.injEq] at h
  subst h
  have hz : szM vs ts = vs.length + ts.length + totL ts := by unfold szM; rfl
  refine ⟨ts.length + 1, ?_⟩
  rw [eq165]
  unfold S165
  have hv := F150_m hc
  have hm := len_tl (l := ts)
  rw [il_nil]
  cases hval : validP vs.length ts
  case false =>
    rw [hval] at hv
    rw [if_neg (by simp)]
    repeat' first
      | with_reducible refine st_ift ?_
      | with_reducible refine st_iff ?_
      | ((with_reducible apply st_call); exact g150; exact rfl; exact hv; exact rfl)
      | ((with_reducible apply st_callt); assumption; exact rfl; exact rfl; assumption)
      | ((with_reducible apply st_callf); assumption; exact rfl; exact rfl; assumption)
      | ((with_reducible apply st_call); assumption; exact rfl; exact rfl; exact rfl)
      | ((with_reducible apply st_wide); exact rfl; exact rfl)
      | ((with_reducible apply st_skip); exact rfl)
      | ((with_reducible apply st_t); exact rfl; exact rfl)
      | ((with_reducible apply st_f); exact rfl; exact rfl)
      | ((with_reducible apply st_t); exact rfl; assumption)
      | ((with_reducible apply st_f); exact rfl; assumption)
      | ((with_reducible apply st_some); exact rfl)
      | exact rfl
  rw [hval] at hv
  rw [if_pos rfl]
  have hloop : iter (tbody 2 (S165L0 G (vl vs) (tl ts) (.flt k) (.int (ts.length : Int)))) (ts.length + 1) [.lst [], .int 0] = some (0, [il (thinN vs ts k ts.length), .int (ts.length : Int), .bool false]) := by
    have h1 := iter_upto (body := tbody 2 (S165L0 G (vl vs) (tl ts) (.flt k) (.int (ts.length : Int)))) (n := ts.length) (l := 0) (ds := [il (thinN vs ts k ts.length), .int (ts.length : Int), .bool false])
      (fun i => [il (thinN vs ts k i), .int (i : Int)]) ?_ ?_
    · simpa [thinN, il_nil] using h1
    · intro i hi
      refine tb rfl ?_
      have h0 : decide ((i : Int) < (ts.length : Int)) = true := by simpa using hi
      obtain ⟨p, q, r, hcn⟩ := corner_ok hval hi
      have hk := thk_eq hi hcn
      have hx := idx_tl hi
      have hf := F162_m (b := tl ts) hcn
      have ht := F161_m hi hcn
      rw [← hk] at hf ht
      have ha := add1n (i := i) (by omega)
      have hl := thinN_len vs ts k i
      have hp := app_il (l := thinN vs ts k i) (m := [(i : Int)]) (by simp; omega)
      have hq : (.lst [.int (i : Int)] : D) = il [(i : Int)] := by unfold il; rfl
      rw [← hq] at hp
      simp only [thinN]
      generalize thk vs ts i = th at hf ht ⊢
      cases hlt : flt .f32 th k
      · rw [if_neg (by simp)]
        generalize il (thinN vs ts k i) = l1
        unfold S165L0
        repeat' first
          | with_reducible refine st_ift ?_
          | with_reducible refine st_iff ?_
          | ((with_reducible apply st_call); exact g162; exact rfl; exact hf; exact rfl)
          | (with_reducible refine st_join (ds := [l1]) ?_ ?_ ?_)
          | ((with_reducible apply st_some); exact hx)
          | ((with_reducible apply st_some); exact ha)
          | ((with_reducible apply st_callt); assumption; exact rfl; exact rfl; assumption)
          | ((with_reducible apply st_callf); assumption; exact rfl; exact rfl; assumption)
          | ((with_reducible apply st_call); assumption; exact rfl; exact rfl; exact rfl)
          | ((with_reducible apply st_wide); exact rfl; exact rfl)
          | ((with_reducible apply st_skip); exact rfl)
          | ((with_reducible apply st_t); exact rfl; exact rfl)
          | ((with_reducible apply st_f); exact rfl; exact rfl)
          | ((with_reducible apply st_t); exact rfl; assumption)
          | ((with_reducible apply st_f); exact rfl; assumption)
          | ((with_reducible apply st_some); exact rfl)
          | exact rfl
      · rw [if_pos rfl]
        generalize il (thinN vs ts k i) = l1 at hp ⊢
        generalize il (thinN vs ts k i ++ [(i : Int)]) = l2 at hp ⊢
        unfold S165L0
        repeat' first
          | with_reducible refine st_ift ?_
          | with_reducible refine st_iff ?_
          | ((with_reducible apply st_call); exact g162; exact rfl; exact hf; exact rfl)
          | (with_reducible refine st_join (ds := [l2]) ?_ ?_ ?_)
          | ((with_reducible apply st_some); exact hx)
          | ((with_reducible apply st_some); exact ha)
          | ((with_reducible apply st_some); exact hp)
          | ((with_reducible apply st_callt); assumption; exact rfl; exact rfl; assumption)
          | ((with_reducible apply st_callf); assumption; exact rfl; exact rfl; assumption)
          | ((with_reducible apply st_call); assumption; exact rfl; exact rfl; exact rfl)
          | ((with_reducible apply st_wide); exact rfl; exact rfl)
          | ((with_reducible apply st_skip); exact rfl)
          | ((with_reducible apply st_t); exact rfl; exact rfl)
          | ((with_reducible apply st_f); exact rfl; exact rfl)
          | ((with_reducible apply st_t); exact rfl; assumption)
          | ((with_reducible apply st_f); exact rfl; assumption)
          | ((with_reducible apply st_some); exact rfl)
          | exact rfl
    · refine tb rfl ?_
      have h0 : decide ((ts.length : Int) < (ts.length : Int)) = false := by simp
      unfold S165L0
      repeat' first
        | with_reducible refine st_ift ?_
        | with_reducible refine st_iff ?_
        | ((with_reducible apply st_callt); assumption; exact rfl; exact rfl; assumption)
        | ((with_reducible apply st_callf); assumption; exact rfl; exact rfl; assumption)
        | ((with_reducible apply st_call); assumption; exact rfl; exact rfl; exact rfl)
        | ((with_reducible apply st_wide); exact rfl; exact rfl)
        | ((with_reducible apply st_skip); exact rfl)
        | ((with_reducible apply st_t); exact rfl; exact rfl)
        | ((with_reducible apply st_f); exact rfl; exact rfl)
        | ((with_reducible apply st_t); exact rfl; assumption)
        | ((with_reducible apply st_f); exact rfl; assumption)
        | ((with_reducible apply st_some); exact rfl)
        | exact rfl
  repeat' first
    | with_reducible refine st_ift ?_
    | with_reducible refine st_iff ?_
    | ((with_reducible apply st_join); exact hloop; exact rfl)
    | ((with_reducible apply st_call); exact g150; exact rfl; exact hv; exact rfl)
    | ((with_reducible apply st_some); exact hm)
    | ((with_reducible apply st_callt); assumption; exact rfl; exact rfl; assumption)
    | ((with_reducible apply st_callf); assumption; exact rfl; exact rfl; assumption)
    | ((with_reducible apply st_call); assumption; exact rfl; exact rfl; exact rfl)
    | ((with_reducible apply st_wide); exact rfl; exact rfl)
    | ((with_reducible apply st_skip); exact rfl)
    | ((with_reducible apply st_t); exact rfl; exact rfl)
    | ((with_reducible apply st_f); exact rfl; exact rfl)
    | ((with_reducible apply st_t); exact rfl; assumption)
    | ((with_reducible apply st_f); exact rfl; assumption)
    | ((with_reducible apply st_some); exact rfl)
    | exact rfl
set_option maxHeartbeats 4000000 in
theorem run165s {G : Told} (g161 : G 161 = F161) (g150 : G 150 = F150) : ∀ ds rs, F165 ds = some rs → ∃ fuel, run G fuel T165s ds = some (0, rs) := by
  intro ds rs h
  unfold F165 at h
  split at h
  case h_2 => cases h
  rename_i a b k
  obtain ⟨vs, ha, h⟩ := Option.bind_eq_some_iff.1 h
  obtain ⟨ts, hb, h⟩ := Option.bind_eq_some_iff.1 h
  rw [dV_inv ha, dT_inv hb]
  split at h
  case isFalse => cases h
  rename_i hc
  simp only [Option.some.injEq] at h
  subst h
  have hz : szM vs ts = vs.length + ts.length + totL ts := by unfold szM; rfl
  refine ⟨ts.length + 1, ?_⟩
  rw [eq165s]
  unfold S165s
  have hv := F150_m hc
  have hm := len_tl (l := ts)
  rw [il_nil]
  cases hval : validP vs.length ts
  case false =>
    rw [hval] at hv
    rw [if_neg (by simp)]
    repeat' first
      | with_reducible refine st_ift ?_
      | with_reducible refine st_iff ?_
      | ((with_reducible apply st_call); exact g150; exact rfl; exact hv; exact rfl)
      | ((with_reducible apply st_callt); assumption; exact rfl; exact rfl; assumption)
      | ((with_reducible apply st_callf); assumption; exact rfl; exact rfl; assumption)
      | ((with_reducible apply st_call); assumption; exact rfl; exact rfl; exact rfl)
      | ((with_reducible apply st_wide); exact rfl; exact rfl)
      | ((with_reducible apply st_skip); exact rfl)
      | ((with_reducible apply st_t); exact rfl; exact rfl)
      | ((with_reducible apply st_f); exact rfl; exact rfl)
      | ((with_reducible apply st_t); exact rfl; assumption)
      | ((with_reducible apply st_f); exact rfl; assumption)
      | ((with_reducible apply st_some); exact rfl)
      | exact rfl
  rw [hval] at hv
  rw [if_pos rfl]
  have hloop : iter (tbody 2 (S165sL0 G (vl vs) (tl ts) (.flt k))) (ts.length + 1) [.lst [], .int 0] = some (0, [il (thinN vs ts k ts.length), .int (ts.length : Int), .int (ts.length : Int), .int (ts.length : Int), .bool false]) := by
    have h1 := iter_upto (body := tbody 2 (S165sL0 G (vl vs) (tl ts) (.flt k))) (n := ts.length) (l := 0) (ds := [il (thinN vs ts k ts.length), .int (ts.length : Int), .int (ts.length : Int), .int (ts.length : Int), .bool false])
      (fun i => [il (thinN vs ts k i), .int (i : Int)]) ?_ ?_
    · simpa [thinN, il_nil] using h1
    · intro i hi
      refine tb rfl ?_
      have h0 : decide ((i : Int) < (ts.length : Int)) = true := by simpa using hi
      obtain ⟨p, q, r, hcn⟩ := corner_ok hval hi
      have hk := thk_eq hi hcn
      have hx := idx_tl hi
      have hf := F162_m (b := tl ts) hcn
      have ht := F161_m hi hcn
      rw [← hk] at hf ht
      have ha := add1n (i := i) (by omega)
      have hl := thinN_len vs ts k i
      have hp := app_il (l := thinN vs ts k i) (m := [(i : Int)]) (by simp; omega)
      have hq : (.lst [.int (i : Int)] : D) = il [(i : Int)] := by unfold il; rfl
      rw [← hq] at hp
      simp only [thinN]
      generalize thk vs ts i = th at hf ht ⊢
      cases hlt : flt .f32 th k
      · rw [if_neg (by simp)]
        generalize il (thinN vs ts k i) = l1
        unfold S165sL0
        repeat' first
          | with_reducible refine st_ift ?_
          | with_reducible refine st_iff ?_
          | ((with_reducible apply st_call); exact g161; exact rfl; exact ht; exact rfl)
          | (with_reducible refine st_join (ds := [l1]) ?_ ?_ ?_)
          | ((with_reducible apply st_some); exact hm)
          | ((with_reducible apply st_some); exact ha)
          | ((with_reducible apply st_callt); assumption; exact rfl; exact rfl; assumption)
          | ((with_reducible apply st_callf); assumption; exact rfl; exact rfl; assumption)
          | ((with_reducible apply st_call); assumption; exact rfl; exact rfl; exact rfl)
          | ((with_reducible apply st_wide); exact rfl; exact rfl)
          | ((with_reducible apply st_skip); exact rfl)
          | ((with_reducible apply st_t); exact rfl; exact rfl)
          | ((with_reducible apply st_f); exact rfl; exact rfl)
          | ((with_reducible apply st_t); exact rfl; assumption)
          | ((with_reducible apply st_f); exact rfl; assumption)
          | ((with_reducible apply st_some); exact rfl)
          | exact rfl
      · rw [if_pos rfl]
        generalize il (thinN vs ts k i) = l1 at hp ⊢
        generalize il (thinN vs ts k i ++ [(i : Int)]) = l2 at hp ⊢
        unfold S165sL0
        repeat' first
          | with_reducible refine st_ift ?_
          | with_reducible refine st_iff ?_
          | ((with_reducible apply st_call); exact g161; exact rfl; exact ht; exact rfl)
          | (with_reducible refine st_join (ds := [l2]) ?_ ?_ ?_)
          | ((with_reducible apply st_some); exact hm)
          | ((with_reducible apply st_some); exact ha)
          | ((with_reducible apply st_some); exact hp)
          | ((with_reducible apply st_callt); assumption; exact rfl; exact rfl; assumption)
          | ((with_reducible apply st_callf); assumption; exact rfl; exact rfl; assumption)
          | ((with_reducible apply st_call); assumption; exact rfl; exact rfl; exact rfl)
          | ((with_reducible apply st_wide); exact rfl; exact rfl)
          | ((with_reducible apply st_skip); exact rfl)
          | ((with_reducible apply st_t); exact rfl; exact rfl)
          | ((with_reducible apply st_f); exact rfl; exact rfl)
          | ((with_reducible apply st_t); exact rfl; assumption)
          | ((with_reducible apply st_f); exact rfl; assumption)
          | ((with_reducible apply st_some); exact rfl)
          | exact rfl
    · refine tb rfl ?_
      have h0 : decide ((ts.length : Int) < (ts.length : Int)) = false := by simp
      unfold S165sL0
      repeat' first
        | with_reducible refine st_ift ?_
        | with_reducible refine st_iff ?_
        | ((with_reducible apply st_some); exact hm)
        | ((with_reducible apply st_callt); assumption; exact rfl; exact rfl; assumption)
        | ((with_reducible apply st_callf); assumption; exact rfl; exact rfl; assumption)
        | ((with_reducible apply st_call); assumption; exact rfl; exact rfl; exact rfl)
        | ((with_reducible apply st_wide); exact rfl; exact rfl)
        | ((with_reducible apply st_skip); exact rfl)
        | ((with_reducible apply st_t); exact rfl; exact rfl)
        | ((with_reducible apply st_f); exact rfl; exact rfl)
        | ((with_reducible apply st_t); exact rfl; assumption)
        | ((with_reducible apply st_f); exact rfl; assumption)
        | ((with_reducible apply st_some); exact rfl)
        | exact rfl
  repeat' first
    | with_reducible refine st_ift ?_
    | with_reducible refine st_iff ?_
    | ((with_reducible apply st_join); exact hloop; exact rfl)
    | ((with_reducible apply st_call); exact g150; exact rfl; exact hv; exact rfl)
    | ((with_reducible apply st_some); exact hm)
    | ((with_reducible apply st_callt); assumption; exact rfl; exact rfl; assumption)
    | ((with_reducible apply st_callf); assumption; exact rfl; exact rfl; assumption)
    | ((with_reducible apply st_call); assumption; exact rfl; exact rfl; exact rfl)
    | ((with_reducible apply st_wide); exact rfl; exact rfl)
    | ((with_reducible apply st_skip); exact rfl)
    | ((with_reducible apply st_t); exact rfl; exact rfl)
    | ((with_reducible apply st_f); exact rfl; exact rfl)
    | ((with_reducible apply st_t); exact rfl; assumption)
    | ((with_reducible apply st_f); exact rfl; assumption)
    | ((with_reducible apply st_some); exact rfl)
    | exact rfl
theorem F102_il {l : List Int} {m : Int} (h : l.length ≤ 1048576) (h0 : 0 ≤ m) (h1 : m ≤ 1048576) : F102 [il l, .int m] = some [.int (m + l.length), .lst (mk m l.length)] := by
  unfold il
  simp only [F102, List.length_map]
  rw [if_pos ⟨h0, by omega⟩]
theorem F104_mk {n : Nat} {m : Int} (h : n ≤ 1048576) (h0 : 0 ≤ m) (h1 : m ≤ 1048576) : F104 [.lst (mk m n), .int m] = some [.int (m + n)] := by
  simp only [F104, mk_length]
  rw [if_pos ⟨trivial, h0, by omega⟩]
set_option maxHeartbeats 4000000 in
theorem run166 {G : Told} (g100 : G 100 = F100) (g102 : G 102 = F102) (g104 : G 104 = F104) (g142 : G 142 = F142) (g145 : G 145 = F145) (g146 : G 146 = F146) (g147 : G 147 = F147) (g165 : G 165 = F165) : ∀ ds rs, F166 ds = some rs → ∃ fuel, run G fuel T166 ds = some (0, rs) := by
  intro ds rs h
  unfold F166 at h
  split at h
  case h_2 => cases h
  rename_i a b k
  obtain ⟨vs, ha, h⟩ := Option.bind_eq_some_iff.1 h
  obtain ⟨ts, hb, h⟩ := Option.bind_eq_some_iff.1 h
  rw [dV_inv ha, dT_inv hb]
  split at h
  case isFalse => cases h
  rename_i hc
  simp only [Option.some.injEq] at h
  subst h
  refine ⟨0, ?_⟩
  rw [eq166]
  unfold S166
  have z1 := F142_m hc
  by_cases hsz : szM vs ts ≤ 1048576
  case neg =>
    rw [szP_neg hsz] at z1
    repeat' first
      | with_reducible refine st_ift ?_
      | with_reducible refine st_iff ?_
      | ((with_reducible apply st_call); exact g142; exact rfl; exact z1; exact rfl)
      | ((with_reducible apply st_callt); assumption; exact rfl; exact rfl; assumption)
      | ((with_reducible apply st_callf); assumption; exact rfl; exact rfl; assumption)
      | ((with_reducible apply st_call); assumption; exact rfl; exact rfl; exact rfl)
      | ((with_reducible apply st_wide); exact rfl; exact rfl)
      | ((with_reducible apply st_skip); exact rfl)
      | ((with_reducible apply st_t); exact rfl; exact rfl)
      | ((with_reducible apply st_f); exact rfl; exact rfl)
      | ((with_reducible apply st_t); exact rfl; assumption)
      | ((with_reducible apply st_f); exact rfl; assumption)
      | ((with_reducible apply st_some); exact rfl)
      | exact rfl
  rw [szP_pos hsz] at z1
  have d1 : decide ((1048576 : Int) - (szM vs ts : Nat) < 0) = false := by simp; omega
  have hz : szM vs ts = vs.length + ts.length + totL ts := by unfold szM; rfl
  have t1 := F145_m hsz
  have q1 := F146_m hsz
  have m1 := F147_m (m := 1) hsz (by omega) (by omega)
  have d3 : decide ((1 : Int) + 3 * vs.length + totL ts < 0) = false := by simp; omega
  have hr : ∃ l b, F165 [vl vs, tl ts, .flt k] = some [il l, .bool b] ∧ l.length ≤ 1048576 := by
    rw [F165_m hsz]
    split
    · exact ⟨_, _, rfl, by have := thinN_len vs ts k ts.length; omega⟩
    · exact ⟨_, _, rfl, by simp⟩
  obtain ⟨l, b, hr, hu⟩ := hr
  have q3 := F100_il hu
  have m3 := F102_il (m := 1) hu (by omega) (by omega)
  have n3 := F104_mk (m := 1) hu (by omega) (by omega)
  have d4 : decide ((1 : Int) + l.length < 0) = false := by simp; omega
  have d5 : ((1 : Int) + l.length != 1 + l.length) = false := by simp
  cases b
  · repeat' first
      | with_reducible refine st_ift ?_
      | with_reducible refine st_iff ?_
      | ((with_reducible apply st_call); exact g142; exact rfl; exact z1; exact rfl)
      | ((with_reducible apply st_call); exact g165; exact rfl; exact hr; exact rfl)
      | ((with_reducible apply st_call); exact g145; exact rfl; exact t1; exact rfl)
      | ((with_reducible apply st_call); exact g146; exact rfl; exact q1; exact rfl)
      | ((with_reducible apply st_call); exact g147; exact rfl; exact m1; exact rfl)
      | ((with_reducible apply st_call); exact g100; exact rfl; exact q3; exact rfl)
      | ((with_reducible apply st_call); exact g102; exact rfl; exact m3; exact rfl)
      | ((with_reducible apply st_call); exact g104; exact rfl; exact n3; exact rfl)
      | ((with_reducible apply st_callt); assumption; exact rfl; exact rfl; assumption)
      | ((with_reducible apply st_callf); assumption; exact rfl; exact rfl; assumption)
      | ((with_reducible apply st_call); assumption; exact rfl; exact rfl; exact rfl)
      | ((with_reducible apply st_wide); exact rfl; exact rfl)
      | ((with_reducible apply st_skip); exact rfl)
      | ((with_reducible apply st_t); exact rfl; exact rfl)
      | ((with_reducible apply st_f); exact rfl; exact rfl)
      | ((with_reducible apply st_t); exact rfl; assumption)
      | ((with_reducible apply st_f); exact rfl; assumption)
      | ((with_reducible apply st_some); exact rfl)
      | exact rfl
  · repeat' first
      | with_reducible refine st_ift ?_
      | with_reducible refine st_iff ?_
      | ((with_reducible apply st_call); exact g142; exact rfl; exact z1; exact rfl)
      | ((with_reducible apply st_call); exact g165; exact rfl; exact hr; exact rfl)
      | ((with_reducible apply st_call); exact g145; exact rfl; exact t1; exact rfl)
      | ((with_reducible apply st_call); exact g146; exact rfl; exact q1; exact rfl)
      | ((with_reducible apply st_call); exact g147; exact rfl; exact m1; exact rfl)
      | ((with_reducible apply st_call); exact g100; exact rfl; exact q3; exact rfl)
      | ((with_reducible apply st_call); exact g102; exact rfl; exact m3; exact rfl)
      | ((with_reducible apply st_call); exact g104; exact rfl; exact n3; exact rfl)
      | ((with_reducible apply st_callt); assumption; exact rfl; exact rfl; assumption)
      | ((with_reducible apply st_callf); assumption; exact rfl; exact rfl; assumption)
      | ((with_reducible apply st_call); assumption; exact rfl; exact rfl; exact rfl)
      | ((with_reducible apply st_wide); exact rfl; exact rfl)
      | ((with_reducible apply st_skip); exact rfl)
      | ((with_reducible apply st_t); exact rfl; exact rfl)
      | ((with_reducible apply st_f); exact rfl; exact rfl)
      | ((with_reducible apply st_t); exact rfl; assumption)
      | ((with_reducible apply st_f); exact rfl; assumption)
      | ((with_reducible apply st_some); exact rfl)
      | exact rfl

end Vs
