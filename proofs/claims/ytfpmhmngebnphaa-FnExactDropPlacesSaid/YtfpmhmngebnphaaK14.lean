/-
  DropPlaces: what the functions compute, and the law.
-/
import Derived.Test.YtfpmhmngebnphaaK9
namespace Vs
open Go

theorem st_ift4 {c : D} {a b X : Option (Nat × List D)} (h : c = .bool true) (k : a = X) : tif c a b = X := by subst h; exact k
theorem st_iff4 {c : D} {a b X : Option (Nat × List D)} (h : c = .bool false) (k : b = X) : tif c a b = X := by subst h; exact k
def bo (l : List Bool) : D := .lst (l.map .bool)
theorem idx_bo {l : List Bool} {i : Nat} (h : i < l.length) : gev none .idx [bo l, .int i] = some (.bool l[i]) := by
  have h2 : (i : Int) < ((l.map D.bool).length : Int) := by simp; omega
  simp only [gev, gok, if_true, Prim.ev, bo]
  rw [if_pos ⟨by omega, h2⟩]
  simp [h]
theorem set_bo {l : List Bool} {i : Nat} {v : Bool} (h : i < l.length) : gev none .set [bo l, .int i, .bool v] = some (bo (l.set i v)) := by
  have h2 : (i : Int) < ((l.map D.bool).length : Int) := by simp; omega
  simp only [gev, gok, if_true, Prim.ev, bo]
  rw [if_pos ⟨by omega, h2⟩]
  simp [List.map_set]
theorem len_bo {l : List Bool} : gev none .len [bo l] = some (.int (l.length : Int)) := by simp [gev, gok, Prim.ev, bo]
theorem rep_bo {n : Nat} (h : n ≤ 1048576) : gev none .rep [.int n, .bool false] = some (bo (List.replicate n false)) := by
  simp only [gev, gok, if_true, Prim.ev, bo]
  rw [if_pos (by omega)]
  simp
theorem rep_il {n : Nat} (h : n ≤ 1048576) : gev none .rep [.int n, .int 0] = some (il (List.replicate n 0)) := by
  simp only [gev, gok, if_true, Prim.ev, il]
  rw [if_pos (by omega)]
  simp
theorem idx_in {l : List Int} {n : Nat} {p : Int} (hl : l.length = n) (h : inr n p = true) : gev none .idx [il l, .int p] = some (.int (l.getD p.toNat 0)) := by
  unfold inr at h
  simp only [Bool.and_eq_true, decide_eq_true_eq] at h
  have e : p = (p.toNat : Int) := by omega
  have hk : p.toNat < l.length := by omega
  have := idx_il hk
  rw [← e] at this
  rw [this, getD_lt hk]

/-! ### Places that are in triangles -/
def usedP (ts : List (List Int)) (p : Nat) : Bool := ts.any fun t => t.contains (p : Int)
def hasN (ts : List (List Int)) (p : Int) : Nat → List Int
  | 0 => []
  | i + 1 => if (ts.getD i []).contains p then hasN ts p i ++ [(i : Int)] else hasN ts p i
theorem hasN_len (ts : List (List Int)) (p : Int) : ∀ i, (hasN ts p i).length ≤ i
  | 0 => by simp [hasN]
  | i + 1 => by
    have := hasN_len ts p i
    simp only [hasN]
    split
    · simp; omega
    · omega
theorem hasN_any (ts : List (List Int)) (p : Int) : ∀ i, i ≤ ts.length → decide ((hasN ts p i).length > 0) = (ts.take i).any fun t => t.contains p
  | 0, _ => by simp [hasN]
  | i + 1, h => by
    have ih := hasN_any ts p i (by omega)
    rw [take_step (by omega : i < ts.length), List.any_append, ← ih]
    simp only [hasN, getD_lt (by omega : i < ts.length), List.any_cons, List.any_nil, Bool.or_false]
    cases (ts[i]).contains p
    · simp
    · simp
/-- Places that stay, and their new numbers, of the first i. -/
def dpN (vs : List V3) (ts : List (List Int)) : Nat → List V3 × List Int
  | 0 => ([], List.replicate vs.length 0)
  | i + 1 => if usedP ts i then ((dpN vs ts i).1 ++ [vs.getD i ⟨0, 0, 0⟩], (dpN vs ts i).2.set i ((dpN vs ts i).1.length : Int)) else dpN vs ts i
theorem dpN_len (vs : List V3) (ts : List (List Int)) : ∀ i, (dpN vs ts i).1.length ≤ i ∧ (dpN vs ts i).2.length = vs.length
  | 0 => by simp [dpN]
  | i + 1 => by
    have := dpN_len vs ts i
    simp only [dpN]
    split
    · simp; omega
    · omega
def trisD (a : List Int) (ts : List (List Int)) : List (List Int) := ts.map fun t => t.map fun p => a.getD p.toNat 0
theorem trisD_len (a : List Int) (ts : List (List Int)) : (trisD a ts).length = ts.length := by simp [trisD]
theorem trisD_tot (a : List Int) (ts : List (List Int)) : totL (trisD a ts) = totL ts := by
  unfold totL trisD
  rw [List.map_map]
  congr 1
  refine List.map_congr_left fun t _ => ?_
  simp
def ptsD (vs : List V3) (ts : List (List Int)) : List V3 := (dpN vs ts vs.length).1
def numD (vs : List V3) (ts : List (List Int)) : List Int := (dpN vs ts vs.length).2
noncomputable def F167 : List D → Option (List D)
  | [a, .int p] => (dI a).bind fun t => if t.length = 3 then some [.bool (t.contains p)] else none
  | _ => none
open Classical in
noncomputable def F168 : List D → Option (List D)
  | [_, b, .int p, .int q] => (dT b).bind fun ts => if q = p ∧ ts.length ≤ 1000 ∧ (∀ t ∈ ts, t.length = 3) then some [il (hasN ts p ts.length)] else none
  | _ => none
noncomputable def F169 : List D → Option (List D)
  | [a, b] => (dV a).bind fun vs => (dT b).bind fun ts => if validP vs.length ts = true then some [bo ((List.range vs.length).map (usedP ts))] else none
  | _ => none
noncomputable def F170 : List D → Option (List D)
  | [a, b] => (dV a).bind fun vs => (dT b).bind fun ts => if szM vs ts ≤ 1048576 then some (if validP vs.length ts = true then [vl (ptsD vs ts), tl (trisD (numD vs ts) ts), .bool true] else [vl [], tl [], .bool false]) else none
  | _ => none
open Classical in
noncomputable def F171 : List D → Option (List D)
  | [a, b] => (dV a).bind fun vs => (dT b).bind fun ts => if lawM vs ts then some [.bool true] else none
  | _ => none
theorem F170_m {vs : List V3} {ts : List (List Int)} (h : szM vs ts ≤ 1048576) : F170 [vl vs, tl ts] = some (if validP vs.length ts = true then [vl (ptsD vs ts), tl (trisD (numD vs ts) ts), .bool true] else [vl [], tl [], .bool false]) := by
  simp only [F170, dV_vl, dT_tl, Option.bind_some]
  rw [if_pos h]
theorem F169_m {vs : List V3} {ts : List (List Int)} (h : validP vs.length ts = true) : F169 [vl vs, tl ts] = some [bo ((List.range vs.length).map (usedP ts))] := by
  simp only [F169, dV_vl, dT_tl, Option.bind_some]
  rw [if_pos h]
theorem F167_m {t : List Int} {p : Int} (h : t.length = 3) : F167 [il t, .int p] = some [.bool (t.contains p)] := by
  simp only [F167, dI_il, Option.bind_some]
  rw [if_pos h]
theorem F168_m {ts : List (List Int)} {p : Int} {a : D} (h : ts.length ≤ 1000) (h3 : ∀ t ∈ ts, t.length = 3) : F168 [a, tl ts, .int p, .int p] = some [il (hasN ts p ts.length)] := by
  simp only [F168, dT_tl, Option.bind_some]
  exact if_pos ⟨trivial, h, h3⟩
theorem valid_parts {n : Nat} {ts : List (List Int)} (h : validP n ts = true) : n ≤ 64 ∧ ts.length ≤ 128 ∧ ∀ i, (hi : i < ts.length) → ∃ p q r, ts[i] = [p, q, r] ∧ inr n p = true ∧ inr n q = true ∧ inr n r = true := by
  unfold validP at h
  simp only [Bool.and_eq_true, decide_eq_true_eq] at h
  refine ⟨h.1.1, h.1.2, fun i hi => ?_⟩
  have ht := List.all_eq_true.1 h.2 _ (List.getElem_mem hi)
  generalize ts[i] = t at ht
  unfold triP at ht
  split at ht
  · rename_i p q r
    simp only [Bool.and_eq_true, List.all_cons, List.all_nil, Bool.and_true] at ht
    obtain ⟨_, h1, h2, h3⟩ := ht
    exact ⟨p, q, r, rfl, h1, h2, h3⟩
  · cases ht

def T167 : T :=
(.op none .idx [(.v 0), (.c (.int 0))] <|
(.op none (.icm .eql) [(.v 2), (.v 1)] <|
(.op (some ((.v 3), false)) .id [(.v 0)] <|
(.op (some ((.v 3), false)) .idx [(.v 4), (.c (.int 1))] <|
(.op (some ((.v 3), false)) .id [(.v 5)] <|
(.op (some ((.v 3), false)) .id [(.v 1)] <|
(.op (some ((.v 3), false)) (.icm .eql) [(.v 6), (.v 7)] <|
(.op none .pick [(.v 3), (.c (.bool true)), (.v 8)] <|
(.op (some ((.v 9), false)) .id [(.v 0)] <|
(.op (some ((.v 9), false)) .idx [(.v 10), (.c (.int 2))] <|
(.op (some ((.v 9), false)) .id [(.v 11)] <|
(.op (some ((.v 9), false)) .id [(.v 1)] <|
(.op (some ((.v 9), false)) (.icm .eql) [(.v 12), (.v 13)] <|
(.op none .pick [(.v 9), (.c (.bool true)), (.v 14)] <|
(.out 0 [(.v 15)])))))))))))))))
def S167 (_G : Told) (_fuel : Nat) (x0 x1 : D) : Option (Nat × List D) :=
  (gev none .idx [x0, (.int 0)]).bind fun x2 =>
  (gev none (.icm .eql) [x2, x1]).bind fun x3 =>
  (gev (some (x3, false)) .id [x0]).bind fun x4 =>
  (gev (some (x3, false)) .idx [x4, (.int 1)]).bind fun x5 =>
  (gev (some (x3, false)) .id [x5]).bind fun x6 =>
  (gev (some (x3, false)) .id [x1]).bind fun x7 =>
  (gev (some (x3, false)) (.icm .eql) [x6, x7]).bind fun x8 =>
  (gev none .pick [x3, (.bool true), x8]).bind fun x9 =>
  (gev (some (x9, false)) .id [x0]).bind fun x10 =>
  (gev (some (x9, false)) .idx [x10, (.int 2)]).bind fun x11 =>
  (gev (some (x9, false)) .id [x11]).bind fun x12 =>
  (gev (some (x9, false)) .id [x1]).bind fun x13 =>
  (gev (some (x9, false)) (.icm .eql) [x12, x13]).bind fun x14 =>
  (gev none .pick [x9, (.bool true), x14]).bind fun x15 =>
  some (0, [x15])
theorem eq167 {G : Told} {fuel : Nat} (x0 x1 : D) : run G fuel T167 [x0, x1] = S167 G fuel x0 x1 := by
  rw [run_eq]; kernel_rfl

def T168 : T :=
(.op none .mklst [] <|
(.join 5
  (.loop [(.v 4), (.c (.int 0))]
    (.op none .len [(.v 1)] <|
    (.op none (.icm .lss) [(.v 6), (.v 7)] <|
    (.ite (.v 8)
      (.op none .idx [(.v 1), (.v 6)] <|
      (.call none 167 [(.v 9), (.v 2)] 1 <|
      (.op (some ((.v 10), true)) .id [(.v 1)] <|
      (.op (some ((.v 10), true)) .id [(.v 6)] <|
      (.op (some ((.v 10), true)) .idx [(.v 11), (.v 12)] <|
      (.op (some ((.v 10), true)) .id [(.v 13)] <|
      (.op (some ((.v 10), true)) .id [(.v 3)] <|
      (.call (some ((.v 10), true)) 167 [(.v 14), (.v 15)] 1 <|
      (.op none .pick [(.v 10), (.v 16), (.c (.bool false))] <|
      (.join 1
        (.ite (.v 17)
          (.op none .mklst [(.v 6)] <|
          (.op none .app [(.v 5), (.v 18)] <|
          (.out 0 [(.v 19)])))
          (.out 0 [(.v 5)]))
      (.op none (.iar .add .i64) [(.v 6), (.c (.int 1))] <|
      (.out 0 [(.v 18), (.v 19)]))))))))))))
      (.out 1 [(.v 5), (.v 6), (.v 6), (.v 7), (.v 8)])))))
(.out 0 [(.v 5)])))
def S168L0 (G : Told) (x1 : D) (x2 : D) (x3 : D) : List D → Option (Nat × List D) := fun e5 =>
      (gev none .len [x1]).bind fun x7 =>
      (gev none (.icm .lss) [(e5.getD 1 .undef), x7]).bind fun x8 =>
      tif x8 (
        (gev none .idx [x1, (e5.getD 1 .undef)]).bind fun x9 =>
        (gcall G none 167 [x9, x2] 1).bind fun e10 =>
        (gev (some ((e10.getD 0 .undef), true)) .id [x1]).bind fun x11 =>
        (gev (some ((e10.getD 0 .undef), true)) .id [(e5.getD 1 .undef)]).bind fun x12 =>
        (gev (some ((e10.getD 0 .undef), true)) .idx [x11, x12]).bind fun x13 =>
        (gev (some ((e10.getD 0 .undef), true)) .id [x13]).bind fun x14 =>
        (gev (some ((e10.getD 0 .undef), true)) .id [x3]).bind fun x15 =>
        (gcall G (some ((e10.getD 0 .undef), true)) 167 [x14, x15] 1).bind fun e16 =>
        (gev none .pick [(e10.getD 0 .undef), (e16.getD 0 .undef), (.bool false)]).bind fun x17 =>
        tjoin 1 (
          tif x17 (
            (gev none .mklst [(e5.getD 1 .undef)]).bind fun x18 =>
            (gev none .app [(e5.getD 0 .undef), x18]).bind fun x19 =>
            some (0, [x19])) (
            some (0, [(e5.getD 0 .undef)]))) fun e18 =>
        (gev none (.iar .add .i64) [(e5.getD 1 .undef), (.int 1)]).bind fun x19 =>
        some (0, [(e18.getD 0 .undef), x19])) (
        some (1, [(e5.getD 0 .undef), (e5.getD 1 .undef), (e5.getD 1 .undef), x7, x8]))
def S168 (G : Told) (fuel : Nat) (_x0 x1 x2 x3 : D) : Option (Nat × List D) :=
  (gev none .mklst []).bind fun x4 =>
  tjoin 5 (
    iter (tbody 2 (S168L0 G x1 x2 x3)) fuel [x4, (.int 0)]) fun e5 =>
  some (0, [(e5.getD 0 .undef)])
theorem eq168 {G : Told} {fuel : Nat} (x0 x1 x2 x3 : D) : run G fuel T168 [x0, x1, x2, x3] = S168 G fuel x0 x1 x2 x3 := by
  rw [run_eq]; kernel_rfl

def T169 : T :=
(.op none .len [(.v 0)] <|
(.op none .rep [(.v 2), (.c (.bool false))] <|
(.op none .len [(.v 1)] <|
(.join 3
  (.loop [(.v 3), (.c (.int 0))]
    (.op none (.icm .lss) [(.v 6), (.v 4)] <|
    (.ite (.v 7)
      (.op none .idx [(.v 1), (.v 6)] <|
      (.op none .len [(.v 8)] <|
      (.join 3
        (.loop [(.v 5), (.c (.int 0))]
          (.op none (.icm .lss) [(.v 11), (.v 9)] <|
          (.ite (.v 12)
            (.op none .idx [(.v 8), (.v 11)] <|
            (.op none .idx [(.v 10), (.v 13)] <|
            (.op none .set [(.v 10), (.v 13), (.c (.bool true))] <|
            (.op none (.iar .add .i64) [(.v 11), (.c (.int 1))] <|
            (.out 0 [(.v 15), (.v 16)])))))
            (.out 1 [(.v 10), (.v 11), (.v 12)]))))
      (.op none (.iar .add .i64) [(.v 6), (.c (.int 1))] <|
      (.out 0 [(.v 10), (.v 13)])))))
      (.out 1 [(.v 5), (.v 6), (.v 7)]))))
(.out 0 [(.v 5)])))))
def S169L0 (_G : Told) (x8 : D) (x9 : D) : List D → Option (Nat × List D) := fun e10 =>
            (gev none (.icm .lss) [(e10.getD 1 .undef), x9]).bind fun x12 =>
            tif x12 (
              (gev none .idx [x8, (e10.getD 1 .undef)]).bind fun x13 =>
              (gev none .idx [(e10.getD 0 .undef), x13]).bind fun _x14 =>
              (gev none .set [(e10.getD 0 .undef), x13, (.bool true)]).bind fun x15 =>
              (gev none (.iar .add .i64) [(e10.getD 1 .undef), (.int 1)]).bind fun x16 =>
              some (0, [x15, x16])) (
              some (1, [(e10.getD 0 .undef), (e10.getD 1 .undef), x12]))
def S169L1 (G : Told) (fuel : Nat) (x1 : D) (x4 : D) : List D → Option (Nat × List D) := fun e5 =>
      (gev none (.icm .lss) [(e5.getD 1 .undef), x4]).bind fun x7 =>
      tif x7 (
        (gev none .idx [x1, (e5.getD 1 .undef)]).bind fun x8 =>
        (gev none .len [x8]).bind fun x9 =>
        tjoin 3 (
          iter (tbody 2 (S169L0 G x8 x9)) fuel [(e5.getD 0 .undef), (.int 0)]) fun e10 =>
        (gev none (.iar .add .i64) [(e5.getD 1 .undef), (.int 1)]).bind fun x13 =>
        some (0, [(e10.getD 0 .undef), x13])) (
        some (1, [(e5.getD 0 .undef), (e5.getD 1 .undef), x7]))
def S169 (G : Told) (fuel : Nat) (x0 x1 : D) : Option (Nat × List D) :=
  (gev none .len [x0]).bind fun x2 =>
  (gev none .rep [x2, (.bool false)]).bind fun x3 =>
  (gev none .len [x1]).bind fun x4 =>
  tjoin 3 (
    iter (tbody 2 (S169L1 G fuel x1 x4)) fuel [x3, (.int 0)]) fun e5 =>
  some (0, [(e5.getD 0 .undef)])
theorem eq169 {G : Told} {fuel : Nat} (x0 x1 : D) : run G fuel T169 [x0, x1] = S169 G fuel x0 x1 := by
  rw [run_eq]; kernel_rfl

def T170 : T :=
(.call none 150 [(.v 0), (.v 1)] 1 <|
(.op none .bnot [(.v 2)] <|
(.ite (.v 3)
  (.out 0 [(.c (.lst [])), (.c (.lst [])), (.c (.bool false))])
  (.op none .len [(.v 0)] <|
  (.op none .rep [(.v 4), (.c (.int 0))] <|
  (.call none 169 [(.v 0), (.v 1)] 1 <|
  (.op none .len [(.v 6)] <|
  (.join 4
    (.loop [(.v 5), (.c (.lst [])), (.c (.int 0))]
      (.op none (.icm .lss) [(.v 10), (.v 7)] <|
      (.ite (.v 11)
        (.op none .idx [(.v 6), (.v 10)] <|
        (.op none .idx [(.v 6), (.v 10)] <|
        (.join 2
          (.ite (.v 13)
            (.op none .len [(.v 9)] <|
            (.op none .idx [(.v 8), (.v 10)] <|
            (.op none .set [(.v 8), (.v 10), (.v 14)] <|
            (.op none .idx [(.v 0), (.v 10)] <|
            (.op none (.proj 0) [(.v 17)] <|
            (.op none (.proj 1) [(.v 17)] <|
            (.op none (.proj 2) [(.v 17)] <|
            (.op none .mkagg [(.v 18), (.v 19), (.v 20)] <|
            (.op none .mklst [(.v 21)] <|
            (.op none .app [(.v 9), (.v 22)] <|
            (.out 0 [(.v 16), (.v 23)])))))))))))
            (.out 0 [(.v 8), (.v 9)]))
        (.op none (.iar .add .i64) [(.v 10), (.c (.int 1))] <|
        (.out 0 [(.v 14), (.v 15), (.v 16)])))))
        (.out 1 [(.v 8), (.v 9), (.v 10), (.v 11)]))))
  (.op none .len [(.v 1)] <|
  (.join 3
    (.loop [(.c (.lst [])), (.c (.int 0))]
      (.op none (.icm .lss) [(.v 14), (.v 12)] <|
      (.ite (.v 15)
        (.op none .idx [(.v 1), (.v 14)] <|
        (.op none .idx [(.v 16), (.c (.int 0))] <|
        (.op none .idx [(.v 8), (.v 17)] <|
        (.op none .idx [(.v 8), (.v 17)] <|
        (.op none .idx [(.v 16), (.c (.int 1))] <|
        (.op none .idx [(.v 8), (.v 20)] <|
        (.op none .idx [(.v 8), (.v 20)] <|
        (.op none .idx [(.v 16), (.c (.int 2))] <|
        (.op none .idx [(.v 8), (.v 23)] <|
        (.op none .idx [(.v 8), (.v 23)] <|
        (.op none .mklst [(.v 19), (.v 22), (.v 25)] <|
        (.op none .mklst [(.v 26)] <|
        (.op none .app [(.v 13), (.v 27)] <|
        (.op none (.iar .add .i64) [(.v 14), (.c (.int 1))] <|
        (.out 0 [(.v 28), (.v 29)])))))))))))))))
        (.out 1 [(.v 13), (.v 14), (.v 15)]))))
  (.out 0 [(.v 9), (.v 13), (.c (.bool true))])))))))))))
def S170L0 (_G : Told) (x1 : D) (e8 : List D) (x12 : D) : List D → Option (Nat × List D) := fun e13 =>
        (gev none (.icm .lss) [(e13.getD 1 .undef), x12]).bind fun x15 =>
        tif x15 (
          (gev none .idx [x1, (e13.getD 1 .undef)]).bind fun x16 =>
          (gev none .idx [x16, (.int 0)]).bind fun x17 =>
          (gev none .idx [(e8.getD 0 .undef), x17]).bind fun _x18 =>
          (gev none .idx [(e8.getD 0 .undef), x17]).bind fun x19 =>
          (gev none .idx [x16, (.int 1)]).bind fun x20 =>
          (gev none .idx [(e8.getD 0 .undef), x20]).bind fun _x21 =>
          (gev none .idx [(e8.getD 0 .undef), x20]).bind fun x22 =>
          (gev none .idx [x16, (.int 2)]).bind fun x23 =>
          (gev none .idx [(e8.getD 0 .undef), x23]).bind fun _x24 =>
          (gev none .idx [(e8.getD 0 .undef), x23]).bind fun x25 =>
          (gev none .mklst [x19, x22, x25]).bind fun x26 =>
          (gev none .mklst [x26]).bind fun x27 =>
          (gev none .app [(e13.getD 0 .undef), x27]).bind fun x28 =>
          (gev none (.iar .add .i64) [(e13.getD 1 .undef), (.int 1)]).bind fun x29 =>
          some (0, [x28, x29])) (
          some (1, [(e13.getD 0 .undef), (e13.getD 1 .undef), x15]))
def S170L1 (_G : Told) (x0 : D) (e6 : List D) (x7 : D) : List D → Option (Nat × List D) := fun e8 =>
        (gev none (.icm .lss) [(e8.getD 2 .undef), x7]).bind fun x11 =>
        tif x11 (
          (gev none .idx [(e6.getD 0 .undef), (e8.getD 2 .undef)]).bind fun _x12 =>
          (gev none .idx [(e6.getD 0 .undef), (e8.getD 2 .undef)]).bind fun x13 =>
          tjoin 2 (
            tif x13 (
              (gev none .len [(e8.getD 1 .undef)]).bind fun x14 =>
              (gev none .idx [(e8.getD 0 .undef), (e8.getD 2 .undef)]).bind fun _x15 =>
              (gev none .set [(e8.getD 0 .undef), (e8.getD 2 .undef), x14]).bind fun x16 =>
              (gev none .idx [x0, (e8.getD 2 .undef)]).bind fun x17 =>
              (gev none (.proj 0) [x17]).bind fun x18 =>
              (gev none (.proj 1) [x17]).bind fun x19 =>
              (gev none (.proj 2) [x17]).bind fun x20 =>
              (gev none .mkagg [x18, x19, x20]).bind fun x21 =>
              (gev none .mklst [x21]).bind fun x22 =>
              (gev none .app [(e8.getD 1 .undef), x22]).bind fun x23 =>
              some (0, [x16, x23])) (
              some (0, [(e8.getD 0 .undef), (e8.getD 1 .undef)]))) fun e14 =>
          (gev none (.iar .add .i64) [(e8.getD 2 .undef), (.int 1)]).bind fun x16 =>
          some (0, [(e14.getD 0 .undef), (e14.getD 1 .undef), x16])) (
          some (1, [(e8.getD 0 .undef), (e8.getD 1 .undef), (e8.getD 2 .undef), x11]))
def S170 (G : Told) (fuel : Nat) (x0 x1 : D) : Option (Nat × List D) :=
  (gcall G none 150 [x0, x1] 1).bind fun e2 =>
  (gev none .bnot [(e2.getD 0 .undef)]).bind fun x3 =>
  tif x3 (
    some (0, [(.lst []), (.lst []), (.bool false)])) (
    (gev none .len [x0]).bind fun x4 =>
    (gev none .rep [x4, (.int 0)]).bind fun x5 =>
    (gcall G none 169 [x0, x1] 1).bind fun e6 =>
    (gev none .len [(e6.getD 0 .undef)]).bind fun x7 =>
    tjoin 4 (
      iter (tbody 3 (S170L1 G x0 e6 x7)) fuel [x5, (.lst []), (.int 0)]) fun e8 =>
    (gev none .len [x1]).bind fun x12 =>
    tjoin 3 (
      iter (tbody 2 (S170L0 G x1 e8 x12)) fuel [(.lst []), (.int 0)]) fun e13 =>
    some (0, [(e8.getD 1 .undef), (e13.getD 0 .undef), (.bool true)]))
theorem eq170 {G : Told} {fuel : Nat} (x0 x1 : D) : run G fuel T170 [x0, x1] = S170 G fuel x0 x1 := by
  rw [run_eq]; kernel_rfl

def T170s : T :=
(.call none 150 [(.v 0), (.v 1)] 1 <|
(.op none .bnot [(.v 2)] <|
(.ite (.v 3)
  (.out 0 [(.c (.lst [])), (.c (.lst [])), (.c (.bool false))])
  (.op none .mklst [] <|
  (.op none .mklst [] <|
  (.op none .len [(.v 0)] <|
  (.op none .rep [(.v 6), (.c (.int 0))] <|
  (.join 6
    (.loop [(.v 4), (.v 7), (.c (.int 0))]
      (.op none .len [(.v 0)] <|
      (.op none (.icm .lss) [(.v 10), (.v 11)] <|
      (.ite (.v 12)
        (.call none 168 [(.v 0), (.v 1), (.v 10), (.v 10)] 1 <|
        (.op none .len [(.v 13)] <|
        (.op none (.icm .gtr) [(.v 14), (.c (.int 0))] <|
        (.join 2
          (.ite (.v 15)
            (.op none .len [(.v 8)] <|
            (.op none .idx [(.v 9), (.v 10)] <|
            (.op none .set [(.v 9), (.v 10), (.v 16)] <|
            (.op none .idx [(.v 0), (.v 10)] <|
            (.op none (.proj 0) [(.v 19)] <|
            (.op none (.proj 1) [(.v 19)] <|
            (.op none (.proj 2) [(.v 19)] <|
            (.op none .mkagg [(.v 20), (.v 21), (.v 22)] <|
            (.op none .mklst [(.v 23)] <|
            (.op none .app [(.v 8), (.v 24)] <|
            (.out 0 [(.v 25), (.v 18)])))))))))))
            (.out 0 [(.v 8), (.v 9)]))
        (.op none (.iar .add .i64) [(.v 10), (.c (.int 1))] <|
        (.out 0 [(.v 16), (.v 17), (.v 18)]))))))
        (.out 1 [(.v 8), (.v 9), (.v 10), (.v 10), (.v 11), (.v 12)])))))
  (.join 5
    (.loop [(.v 5), (.c (.int 0))]
      (.op none .len [(.v 1)] <|
      (.op none (.icm .lss) [(.v 15), (.v 16)] <|
      (.ite (.v 17)
        (.op none .idx [(.v 1), (.v 15)] <|
        (.op none .idx [(.v 18), (.c (.int 0))] <|
        (.op none .idx [(.v 9), (.v 19)] <|
        (.op none .idx [(.v 9), (.v 19)] <|
        (.op none .idx [(.v 18), (.c (.int 1))] <|
        (.op none .idx [(.v 9), (.v 22)] <|
        (.op none .idx [(.v 9), (.v 22)] <|
        (.op none .idx [(.v 18), (.c (.int 2))] <|
        (.op none .idx [(.v 9), (.v 25)] <|
        (.op none .idx [(.v 9), (.v 25)] <|
        (.op none .mklst [(.v 21), (.v 24), (.v 27)] <|
        (.op none .mklst [(.v 28)] <|
        (.op none .app [(.v 14), (.v 29)] <|
        (.op none (.iar .add .i64) [(.v 15), (.c (.int 1))] <|
        (.out 0 [(.v 30), (.v 31)])))))))))))))))
        (.out 1 [(.v 14), (.v 15), (.v 15), (.v 16), (.v 17)])))))
  (.out 0 [(.v 8), (.v 14), (.c (.bool true))]))))))))))
def S170sL0 (_G : Told) (x1 : D) (e8 : List D) : List D → Option (Nat × List D) := fun e14 =>
        (gev none .len [x1]).bind fun x16 =>
        (gev none (.icm .lss) [(e14.getD 1 .undef), x16]).bind fun x17 =>
        tif x17 (
          (gev none .idx [x1, (e14.getD 1 .undef)]).bind fun x18 =>
          (gev none .idx [x18, (.int 0)]).bind fun x19 =>
          (gev none .idx [(e8.getD 1 .undef), x19]).bind fun _x20 =>
          (gev none .idx [(e8.getD 1 .undef), x19]).bind fun x21 =>
          (gev none .idx [x18, (.int 1)]).bind fun x22 =>
          (gev none .idx [(e8.getD 1 .undef), x22]).bind fun _x23 =>
          (gev none .idx [(e8.getD 1 .undef), x22]).bind fun x24 =>
          (gev none .idx [x18, (.int 2)]).bind fun x25 =>
          (gev none .idx [(e8.getD 1 .undef), x25]).bind fun _x26 =>
          (gev none .idx [(e8.getD 1 .undef), x25]).bind fun x27 =>
          (gev none .mklst [x21, x24, x27]).bind fun x28 =>
          (gev none .mklst [x28]).bind fun x29 =>
          (gev none .app [(e14.getD 0 .undef), x29]).bind fun x30 =>
          (gev none (.iar .add .i64) [(e14.getD 1 .undef), (.int 1)]).bind fun x31 =>
          some (0, [x30, x31])) (
          some (1, [(e14.getD 0 .undef), (e14.getD 1 .undef), (e14.getD 1 .undef), x16, x17]))
def S170sL1 (G : Told) (x0 : D) (x1 : D) : List D → Option (Nat × List D) := fun e8 =>
        (gev none .len [x0]).bind fun x11 =>
        (gev none (.icm .lss) [(e8.getD 2 .undef), x11]).bind fun x12 =>
        tif x12 (
          (gcall G none 168 [x0, x1, (e8.getD 2 .undef), (e8.getD 2 .undef)] 1).bind fun e13 =>
          (gev none .len [(e13.getD 0 .undef)]).bind fun x14 =>
          (gev none (.icm .gtr) [x14, (.int 0)]).bind fun x15 =>
          tjoin 2 (
            tif x15 (
              (gev none .len [(e8.getD 0 .undef)]).bind fun x16 =>
              (gev none .idx [(e8.getD 1 .undef), (e8.getD 2 .undef)]).bind fun _x17 =>
              (gev none .set [(e8.getD 1 .undef), (e8.getD 2 .undef), x16]).bind fun x18 =>
              (gev none .idx [x0, (e8.getD 2 .undef)]).bind fun x19 =>
              (gev none (.proj 0) [x19]).bind fun x20 =>
              (gev none (.proj 1) [x19]).bind fun x21 =>
              (gev none (.proj 2) [x19]).bind fun x22 =>
              (gev none .mkagg [x20, x21, x22]).bind fun x23 =>
              (gev none .mklst [x23]).bind fun x24 =>
              (gev none .app [(e8.getD 0 .undef), x24]).bind fun x25 =>
              some (0, [x25, x18])) (
              some (0, [(e8.getD 0 .undef), (e8.getD 1 .undef)]))) fun e16 =>
          (gev none (.iar .add .i64) [(e8.getD 2 .undef), (.int 1)]).bind fun x18 =>
          some (0, [(e16.getD 0 .undef), (e16.getD 1 .undef), x18])) (
          some (1, [(e8.getD 0 .undef), (e8.getD 1 .undef), (e8.getD 2 .undef), (e8.getD 2 .undef), x11, x12]))
def S170s (G : Told) (fuel : Nat) (x0 x1 : D) : Option (Nat × List D) :=
  (gcall G none 150 [x0, x1] 1).bind fun e2 =>
  (gev none .bnot [(e2.getD 0 .undef)]).bind fun x3 =>
  tif x3 (
    some (0, [(.lst []), (.lst []), (.bool false)])) (
    (gev none .mklst []).bind fun x4 =>
    (gev none .mklst []).bind fun x5 =>
    (gev none .len [x0]).bind fun x6 =>
    (gev none .rep [x6, (.int 0)]).bind fun x7 =>
    tjoin 6 (
      iter (tbody 3 (S170sL1 G x0 x1)) fuel [x4, x7, (.int 0)]) fun e8 =>
    tjoin 5 (
      iter (tbody 2 (S170sL0 G x1 e8)) fuel [x5, (.int 0)]) fun e14 =>
    some (0, [(e8.getD 0 .undef), (e14.getD 0 .undef), (.bool true)]))
theorem eq170s {G : Told} {fuel : Nat} (x0 x1 : D) : run G fuel T170s [x0, x1] = S170s G fuel x0 x1 := by
  rw [run_eq]; kernel_rfl

def T171 : T :=
(.call none 142 [(.v 0), (.v 1), (.c (.int 1048576))] 1 <|
(.op none (.icm .lss) [(.v 2), (.c (.int 0))] <|
(.ite (.v 3)
  (.out 0 [(.c (.bool true))])
  (.call none 145 [(.v 0), (.v 1)] 2 <|
  (.call none 170 [(.v 4), (.v 5)] 3 <|
  (.call none 145 [(.v 0), (.v 1)] 2 <|
  (.call none 170 [(.v 9), (.v 10)] 3 <|
  (.call none 146 [(.v 11), (.v 12), (.v 6), (.v 7)] 1 <|
  (.op none .bnot [(.v 14)] <|
  (.op (some ((.v 15), false)) .id [(.v 13)] <|
  (.op (some ((.v 15), false)) .id [(.v 8)] <|
  (.op (some ((.v 15), false)) .bne [(.v 16), (.v 17)] <|
  (.op none .pick [(.v 15), (.c (.bool true)), (.v 18)] <|
  (.ite (.v 19)
    (.out 0 [(.c (.bool false))])
    (.call none 145 [(.v 0), (.v 1)] 2 <|
    (.call none 146 [(.v 9), (.v 10), (.v 20), (.v 21)] 1 <|
    (.op none .bnot [(.v 22)] <|
    (.ite (.v 23)
      (.out 0 [(.c (.bool false))])
      (.call none 147 [(.v 9), (.v 10), (.c (.int 1))] 3 <|
      (.op none (.icm .lss) [(.v 24), (.c (.int 0))] <|
      (.call (some ((.v 27), false)) 146 [(.v 11), (.v 12), (.v 6), (.v 7)] 1 <|
      (.op (some ((.v 27), false)) .bnot [(.v 28)] <|
      (.op none .pick [(.v 27), (.c (.bool true)), (.v 29)] <|
      (.op (some ((.v 30), false)) .id [(.v 13)] <|
      (.op (some ((.v 30), false)) .id [(.v 8)] <|
      (.op (some ((.v 30), false)) .bne [(.v 31), (.v 32)] <|
      (.op none .pick [(.v 30), (.c (.bool true)), (.v 33)] <|
      (.ite (.v 34)
        (.out 0 [(.c (.bool false))])
        (.call none 147 [(.v 11), (.v 12), (.c (.int 1))] 3 <|
        (.call none 148 [(.v 36), (.v 37), (.c (.int 1))] 1 <|
        (.op none (.icm .lss) [(.v 38), (.c (.int 0))] <|
        (.ite (.v 39)
          (.out 0 [(.c (.bool false))])
          (.op none (.icm .neq) [(.v 38), (.v 35)] <|
          (.ite (.v 40)
            (.out 0 [(.c (.bool false))])
            (.call none 145 [(.v 0), (.v 1)] 2 <|
            (.call none 170 [(.v 41), (.v 42)] 3 <|
            (.call none 146 [(.v 43), (.v 44), (.v 6), (.v 7)] 1 <|
            (.op none .bnot [(.v 46)] <|
            (.op (some ((.v 47), false)) .id [(.v 45)] <|
            (.op (some ((.v 47), false)) .id [(.v 8)] <|
            (.op (some ((.v 47), false)) .bne [(.v 48), (.v 49)] <|
            (.op none .pick [(.v 47), (.c (.bool true)), (.v 50)] <|
            (.ite (.v 51)
              (.out 0 [(.c (.bool false))])
              (.call none 148 [(.v 36), (.v 37), (.c (.int 1))] 1 <|
              (.op none (.icm .lss) [(.v 52), (.c (.int 0))] <|
              (.ite (.v 53)
                (.out 0 [(.c (.bool false))])
                (.op none (.icm .neq) [(.v 52), (.v 35)] <|
                (.ite (.v 54)
                  (.out 0 [(.c (.bool false))])
                  (.out 0 [(.c (.bool true))])))))))))))))))))))))))))))))))))))))))))))))))))
def S171 (G : Told) (_fuel : Nat) (x0 x1 : D) : Option (Nat × List D) :=
  (gcall G none 142 [x0, x1, (.int 1048576)] 1).bind fun e2 =>
  (gev none (.icm .lss) [(e2.getD 0 .undef), (.int 0)]).bind fun x3 =>
  tif x3 (
    some (0, [(.bool true)])) (
    (gcall G none 145 [x0, x1] 2).bind fun e4 =>
    (gcall G none 170 [(e4.getD 0 .undef), (e4.getD 1 .undef)] 3).bind fun e6 =>
    (gcall G none 145 [x0, x1] 2).bind fun e9 =>
    (gcall G none 170 [(e9.getD 0 .undef), (e9.getD 1 .undef)] 3).bind fun e11 =>
    (gcall G none 146 [(e11.getD 0 .undef), (e11.getD 1 .undef), (e6.getD 0 .undef), (e6.getD 1 .undef)] 1).bind fun e14 =>
    (gev none .bnot [(e14.getD 0 .undef)]).bind fun x15 =>
    (gev (some (x15, false)) .id [(e11.getD 2 .undef)]).bind fun x16 =>
    (gev (some (x15, false)) .id [(e6.getD 2 .undef)]).bind fun x17 =>
    (gev (some (x15, false)) .bne [x16, x17]).bind fun x18 =>
    (gev none .pick [x15, (.bool true), x18]).bind fun x19 =>
    tif x19 (
      some (0, [(.bool false)])) (
      (gcall G none 145 [x0, x1] 2).bind fun e20 =>
      (gcall G none 146 [(e9.getD 0 .undef), (e9.getD 1 .undef), (e20.getD 0 .undef), (e20.getD 1 .undef)] 1).bind fun e22 =>
      (gev none .bnot [(e22.getD 0 .undef)]).bind fun x23 =>
      tif x23 (
        some (0, [(.bool false)])) (
        (gcall G none 147 [(e9.getD 0 .undef), (e9.getD 1 .undef), (.int 1)] 3).bind fun e24 =>
        (gev none (.icm .lss) [(e24.getD 0 .undef), (.int 0)]).bind fun x27 =>
        (gcall G (some (x27, false)) 146 [(e11.getD 0 .undef), (e11.getD 1 .undef), (e6.getD 0 .undef), (e6.getD 1 .undef)] 1).bind fun e28 =>
        (gev (some (x27, false)) .bnot [(e28.getD 0 .undef)]).bind fun x29 =>
        (gev none .pick [x27, (.bool true), x29]).bind fun x30 =>
        (gev (some (x30, false)) .id [(e11.getD 2 .undef)]).bind fun x31 =>
        (gev (some (x30, false)) .id [(e6.getD 2 .undef)]).bind fun x32 =>
        (gev (some (x30, false)) .bne [x31, x32]).bind fun x33 =>
        (gev none .pick [x30, (.bool true), x33]).bind fun x34 =>
        tif x34 (
          some (0, [(.bool false)])) (
          (gcall G none 147 [(e11.getD 0 .undef), (e11.getD 1 .undef), (.int 1)] 3).bind fun e35 =>
          (gcall G none 148 [(e35.getD 1 .undef), (e35.getD 2 .undef), (.int 1)] 1).bind fun e38 =>
          (gev none (.icm .lss) [(e38.getD 0 .undef), (.int 0)]).bind fun x39 =>
          tif x39 (
            some (0, [(.bool false)])) (
            (gev none (.icm .neq) [(e38.getD 0 .undef), (e35.getD 0 .undef)]).bind fun x40 =>
            tif x40 (
              some (0, [(.bool false)])) (
              (gcall G none 145 [x0, x1] 2).bind fun e41 =>
              (gcall G none 170 [(e41.getD 0 .undef), (e41.getD 1 .undef)] 3).bind fun e43 =>
              (gcall G none 146 [(e43.getD 0 .undef), (e43.getD 1 .undef), (e6.getD 0 .undef), (e6.getD 1 .undef)] 1).bind fun e46 =>
              (gev none .bnot [(e46.getD 0 .undef)]).bind fun x47 =>
              (gev (some (x47, false)) .id [(e43.getD 2 .undef)]).bind fun x48 =>
              (gev (some (x47, false)) .id [(e6.getD 2 .undef)]).bind fun x49 =>
              (gev (some (x47, false)) .bne [x48, x49]).bind fun x50 =>
              (gev none .pick [x47, (.bool true), x50]).bind fun x51 =>
              tif x51 (
                some (0, [(.bool false)])) (
                (gcall G none 148 [(e35.getD 1 .undef), (e35.getD 2 .undef), (.int 1)] 1).bind fun e52 =>
                (gev none (.icm .lss) [(e52.getD 0 .undef), (.int 0)]).bind fun x53 =>
                tif x53 (
                  some (0, [(.bool false)])) (
                  (gev none (.icm .neq) [(e52.getD 0 .undef), (e35.getD 0 .undef)]).bind fun x54 =>
                  tif x54 (
                    some (0, [(.bool false)])) (
                    some (0, [(.bool true)]))))))))))
theorem eq171 {G : Told} {fuel : Nat} (x0 x1 : D) : run G fuel T171 [x0, x1] = S171 G fuel x0 x1 := by
  rw [run_eq]; kernel_rfl

attribute [local irreducible] tif tjoin IntKind.wrap feq fadd fmul fsub fdiv fgt i2f sameP wide eqV vl il tl totL szM szP marksV marksT inr triP validP bo usedP

set_option maxHeartbeats 4000000 in
theorem run167 {G : Told} : ∀ ds rs, F167 ds = some rs → ∃ fuel, run G fuel T167 ds = some (0, rs) := by
  intro ds rs h
  unfold F167 at h
  split at h
  case h_2 => cases h
  rename_i a p
  obtain ⟨t, ha, h⟩ := Option.bind_eq_some_iff.1 h
  rw [dI_inv ha]
  split at h
  case isFalse => cases h
  rename_i hc
  simp only [Option.some.injEq] at h
  subst h
  obtain ⟨x, y, z, rfl⟩ := len3 hc
  have x0 : gev none .idx [il [x, y, z], .int 0] = some (.int x) := idx_il (l := [x, y, z]) (i := 0) (by simp)
  have x1 : gev none .idx [il [x, y, z], .int 1] = some (.int y) := idx_il (l := [x, y, z]) (i := 1) (by simp)
  have x2 : gev none .idx [il [x, y, z], .int 2] = some (.int z) := idx_il (l := [x, y, z]) (i := 2) (by simp)
  refine ⟨0, ?_⟩
  rw [eq167]
  unfold S167
  have e : [x, y, z].contains p = ((x == p) || (y == p) || (z == p)) := by
    rw [Bool.eq_iff_iff]
    simp only [List.contains_iff_mem, List.mem_cons, List.not_mem_nil, or_false, Bool.or_eq_true, beq_iff_eq]
    constructor
    · rintro (h | h | h)
      · exact .inl (.inl h.symm)
      · exact .inl (.inr h.symm)
      · exact .inr h.symm
    · rintro ((h | h) | h)
      · exact .inl h.symm
      · exact .inr (.inl h.symm)
      · exact .inr (.inr h.symm)
  rw [e]
  cases h1 : x == p
  · cases h2 : y == p
    · repeat' first
        | with_reducible refine st_ift ?_
        | with_reducible refine st_iff ?_
        | ((with_reducible apply st_ift4); exact rfl)
        | ((with_reducible apply st_iff4); exact rfl)
        | ((with_reducible apply st_some); exact x0)
        | ((with_reducible apply st_some); exact x1)
        | ((with_reducible apply st_some); exact x2)
        | ((with_reducible apply st_callt); assumption; exact rfl; exact rfl; assumption)
        | ((with_reducible apply st_callf); assumption; exact rfl; exact rfl; assumption)
        | ((with_reducible apply st_call); assumption; exact rfl; exact rfl; exact rfl)
        | ((with_reducible apply st_wide); exact rfl; exact rfl)
        | ((with_reducible apply st_skip); exact rfl)
        | ((with_reducible apply st_t); exact rfl; exact rfl)
        | ((with_reducible apply st_f); exact rfl; exact rfl)
        | ((with_reducible apply st_t); exact rfl; assumption)
        | ((with_reducible apply st_f); exact rfl; assumption)
        | ((with_reducible apply st_some); exact rfl)
        | exact rfl
    · repeat' first
        | with_reducible refine st_ift ?_
        | with_reducible refine st_iff ?_
        | ((with_reducible apply st_ift4); exact rfl)
        | ((with_reducible apply st_iff4); exact rfl)
        | ((with_reducible apply st_some); exact x0)
        | ((with_reducible apply st_some); exact x1)
        | ((with_reducible apply st_some); exact x2)
        | ((with_reducible apply st_callt); assumption; exact rfl; exact rfl; assumption)
        | ((with_reducible apply st_callf); assumption; exact rfl; exact rfl; assumption)
        | ((with_reducible apply st_call); assumption; exact rfl; exact rfl; exact rfl)
        | ((with_reducible apply st_wide); exact rfl; exact rfl)
        | ((with_reducible apply st_skip); exact rfl)
        | ((with_reducible apply st_t); exact rfl; exact rfl)
        | ((with_reducible apply st_f); exact rfl; exact rfl)
        | ((with_reducible apply st_t); exact rfl; assumption)
        | ((with_reducible apply st_f); exact rfl; assumption)
        | ((with_reducible apply st_some); exact rfl)
        | exact rfl
  · repeat' first
      | with_reducible refine st_ift ?_
      | with_reducible refine st_iff ?_
      | ((with_reducible apply st_ift4); exact rfl)
      | ((with_reducible apply st_iff4); exact rfl)
      | ((with_reducible apply st_some); exact x0)
      | ((with_reducible apply st_some); exact x1)
      | ((with_reducible apply st_some); exact x2)
      | ((with_reducible apply st_callt); assumption; exact rfl; exact rfl; assumption)
      | ((with_reducible apply st_callf); assumption; exact rfl; exact rfl; assumption)
      | ((with_reducible apply st_call); assumption; exact rfl; exact rfl; exact rfl)
      | ((with_reducible apply st_wide); exact rfl; exact rfl)
      | ((with_reducible apply st_skip); exact rfl)
      | ((with_reducible apply st_t); exact rfl; exact rfl)
      | ((with_reducible apply st_f); exact rfl; exact rfl)
      | ((with_reducible apply st_t); exact rfl; assumption)
      | ((with_reducible apply st_f); exact rfl; assumption)
      | ((with_reducible apply st_some); exact rfl)
      | exact rfl
set_option maxHeartbeats 4000000 in
theorem run168 {G : Told} (g167 : G 167 = F167) : ∀ ds rs, F168 ds = some rs → ∃ fuel, run G fuel T168 ds = some (0, rs) := by
  intro ds rs h
  unfold F168 at h
  split at h
  case h_2 => cases h
  rename_i a b p q
  obtain ⟨ts, hb, h⟩ := Option.bind_eq_some_iff.1 h
  rw [dT_inv hb]
  split at h
  case isFalse => cases h
  rename_i hc
  simp only [Option.some.injEq] at h
  subst h
  clear hb
  obtain ⟨rfl, hl, h3⟩ := hc
  have hm := len_tl (l := ts)
  refine ⟨ts.length + 1, ?_⟩
  rw [eq168]
  unfold S168
  have hloop : iter (tbody 2 (S168L0 G (tl ts) (.int q) (.int q))) (ts.length + 1) [.lst [], .int 0] = some (0, [il (hasN ts q ts.length), .int (ts.length : Int), .int (ts.length : Int), .int (ts.length : Int), .bool false]) := by
    have h1 := iter_upto (body := tbody 2 (S168L0 G (tl ts) (.int q) (.int q))) (n := ts.length) (l := 0) (ds := [il (hasN ts q ts.length), .int (ts.length : Int), .int (ts.length : Int), .int (ts.length : Int), .bool false])
      (fun i => [il (hasN ts q i), .int (i : Int)]) ?_ ?_
    · simpa [hasN, il_nil] using h1
    · intro i hi
      refine tb rfl ?_
      have h0 : decide ((i : Int) < (ts.length : Int)) = true := by simpa using hi
      have hx := idx_tl hi
      have ha := add1n (i := i) (by omega)
      have hf := F167_m (p := q) (h3 ts[i] (List.getElem_mem hi))
      have hle := hasN_len ts q i
      have hp := app_il (l := hasN ts q i) (m := [(i : Int)]) (by simp; omega)
      have hq : (.lst [.int (i : Int)] : D) = il [(i : Int)] := by unfold il; rfl
      rw [← hq] at hp
      simp only [hasN, getD_lt hi]
      generalize hasN ts q i = o at hp ⊢
      cases hcn : (ts[i]).contains q
      · rw [hcn] at hf
        rw [if_neg (by simp)]
        unfold S168L0
        repeat' first
          | with_reducible refine st_ift ?_
          | with_reducible refine st_iff ?_
          | ((with_reducible apply st_ift4); exact rfl)
          | ((with_reducible apply st_iff4); exact rfl)
          | (with_reducible refine st_join (ds := [il o]) ?_ ?_ ?_)
          | ((with_reducible apply st_call); exact g167; exact rfl; exact hf; exact rfl)
          | ((with_reducible apply st_some); exact hm)
          | ((with_reducible apply st_some); exact hx)
          | ((with_reducible apply st_some); exact ha)
          | ((with_reducible apply st_callt); assumption; exact rfl; exact rfl; assumption)
          | ((with_reducible apply st_callf); assumption; exact rfl; exact rfl; assumption)
          | ((with_reducible apply st_call); assumption; exact rfl; exact rfl; exact rfl)
          | ((with_reducible apply st_wide); exact rfl; exact rfl)
          | ((with_reducible apply st_skip); exact rfl)
          | ((with_reducible apply st_t); exact rfl; exact rfl)
          | ((with_reducible apply st_f); exact rfl; exact rfl)
          | ((with_reducible apply st_t); exact rfl; assumption)
          | ((with_reducible apply st_f); exact rfl; assumption)
          | ((with_reducible apply st_some); exact rfl)
          | exact rfl
      · rw [hcn] at hf
        rw [if_pos rfl]
        unfold S168L0
        repeat' first
          | with_reducible refine st_ift ?_
          | with_reducible refine st_iff ?_
          | ((with_reducible apply st_ift4); exact rfl)
          | ((with_reducible apply st_iff4); exact rfl)
          | (with_reducible refine st_join (ds := [il (o ++ [(i : Int)])]) ?_ ?_ ?_)
          | ((with_reducible apply st_call); exact g167; exact rfl; exact hf; exact rfl)
          | ((with_reducible apply st_some); exact hm)
          | ((with_reducible apply st_some); exact hx)
          | ((with_reducible apply st_some); exact ha)
          | ((with_reducible apply st_some); exact hp)
          | ((with_reducible apply st_callt); assumption; exact rfl; exact rfl; assumption)
          | ((with_reducible apply st_callf); assumption; exact rfl; exact rfl; assumption)
          | ((with_reducible apply st_call); assumption; exact rfl; exact rfl; exact rfl)
          | ((with_reducible apply st_wide); exact rfl; exact rfl)
          | ((with_reducible apply st_skip); exact rfl)
          | ((with_reducible apply st_t); exact rfl; exact rfl)
          | ((with_reducible apply st_f); exact rfl; exact rfl)
          | ((with_reducible apply st_t); exact rfl; assumption)
          | ((with_reducible apply st_f); exact rfl; assumption)
          | ((with_reducible apply st_some); exact rfl)
          | exact rfl
    · refine tb rfl ?_
      have h0 : decide ((ts.length : Int) < (ts.length : Int)) = false := by simp
      unfold S168L0
      repeat' first
        | with_reducible refine st_ift ?_
        | with_reducible refine st_iff ?_
        | ((with_reducible apply st_ift4); exact rfl)
        | ((with_reducible apply st_iff4); exact rfl)
        | ((with_reducible apply st_some); exact hm)
        | ((with_reducible apply st_callt); assumption; exact rfl; exact rfl; assumption)
        | ((with_reducible apply st_callf); assumption; exact rfl; exact rfl; assumption)
        | ((with_reducible apply st_call); assumption; exact rfl; exact rfl; exact rfl)
        | ((with_reducible apply st_wide); exact rfl; exact rfl)
        | ((with_reducible apply st_skip); exact rfl)
        | ((with_reducible apply st_t); exact rfl; exact rfl)
        | ((with_reducible apply st_f); exact rfl; exact rfl)
        | ((with_reducible apply st_t); exact rfl; assumption)
        | ((with_reducible apply st_f); exact rfl; assumption)
        | ((with_reducible apply st_some); exact rfl)
        | exact rfl
  repeat' first
    | with_reducible refine st_ift ?_
    | with_reducible refine st_iff ?_
    | ((with_reducible apply st_ift4); exact rfl)
    | ((with_reducible apply st_iff4); exact rfl)
    | ((with_reducible apply st_join); exact hloop; exact rfl)
    | ((with_reducible apply st_callt); assumption; exact rfl; exact rfl; assumption)
    | ((with_reducible apply st_callf); assumption; exact rfl; exact rfl; assumption)
    | ((with_reducible apply st_call); assumption; exact rfl; exact rfl; exact rfl)
    | ((with_reducible apply st_wide); exact rfl; exact rfl)
    | ((with_reducible apply st_skip); exact rfl)
    | ((with_reducible apply st_t); exact rfl; exact rfl)
    | ((with_reducible apply st_f); exact rfl; exact rfl)
    | ((with_reducible apply st_t); exact rfl; assumption)
    | ((with_reducible apply st_f); exact rfl; assumption)
    | ((with_reducible apply st_some); exact rfl)
    | exact rfl
set_option maxHeartbeats 4000000 in
theorem run169 {G : Told} : ∀ ds rs, F169 ds = some rs → ∃ fuel, run G fuel T169 ds = some (0, rs) := by
  intro ds rs h
  unfold F169 at h
  split at h
  case h_2 => cases h
  rename_i a b
  obtain ⟨vs, ha, h⟩ := Option.bind_eq_some_iff.1 h
  obtain ⟨ts, hb, h⟩ := Option.bind_eq_some_iff.1 h
  rw [dV_inv ha, dT_inv hb]
  split at h
  case isFalse => cases h
  rename_i hc
  simp only [Option.some.injEq] at h
  subst h
  clear ha hb
  obtain ⟨hn64, h128, hpar⟩ := valid_parts hc
  have hm := len_tl (l := ts)
  have hn := len_vl (l := vs)
  have hfu : ∃ fuel, fuel = 1000 := ⟨_, rfl⟩
  obtain ⟨fuel, hfu⟩ := hfu
  refine ⟨fuel, ?_⟩
  rw [eq169]
  unfold S169
  have hU : ∃ U : Nat → List Bool, (∀ i, (U i).length = vs.length) ∧ U 0 = List.replicate vs.length false ∧ U ts.length = (List.range vs.length).map (usedP ts) ∧ ∀ i, (hi : i < ts.length) → ∀ p q r, ts[i] = [p, q, r] → inr vs.length p = true → inr vs.length q = true → inr vs.length r = true → (((U i).set p.toNat true).set q.toNat true).set r.toNat true = U (i + 1) := by
    refine ⟨fun i => (List.range vs.length).map fun (c : Nat) => (ts.take i).any fun t => t.contains (c : Int), by simp, ?_, ?_, fun i hi p q r ht hp hq hr => ?_⟩
    · refine List.ext_getElem (by simp) fun j h1 h2 => ?_
      simp
    · refine List.map_congr_left fun c _ => ?_
      unfold usedP
      rw [List.take_length]
    · unfold inr at hp hq hr
      simp only [Bool.and_eq_true, decide_eq_true_eq] at hp hq hr
      refine List.ext_getElem (by simp) fun j h1 h2 => ?_
      simp only [List.length_map, List.length_range] at h2
      rw [List.getElem_set, List.getElem_set, List.getElem_set]
      simp only [List.getElem_map, List.getElem_range]
      rw [take_step hi, List.any_append, ht]
      simp only [List.any_cons, List.any_nil, Bool.or_false]
      have e : [p, q, r].contains (j : Int) = (decide (r.toNat = j) || decide (q.toNat = j) || decide (p.toNat = j)) := by
        rw [Bool.eq_iff_iff]
        simp only [List.contains_iff_mem, List.mem_cons, List.not_mem_nil, or_false, Bool.or_eq_true, decide_eq_true_eq]
        omega
      rw [e]
      by_cases c1 : r.toNat = j
      · simp [c1]
      · by_cases c2 : q.toNat = j
        · simp [c1, c2]
        · by_cases c3 : p.toNat = j
          · simp [c1, c2, c3]
          · simp [c1, c2, c3]
  obtain ⟨U, hul, hu0, huN, hus⟩ := hU
  rw [← huN]
  have hrep := rep_bo (n := vs.length) (by omega)
  rw [← hu0] at hrep
  have hloop : iter (tbody 2 (S169L1 G fuel (tl ts) (.int (ts.length : Int)))) fuel [bo (U 0), .int 0] = some (0, [bo (U ts.length), .int (ts.length : Int), .bool false]) := by
    refine iter_to (body := tbody 2 (S169L1 G fuel (tl ts) (.int (ts.length : Int)))) (n := ts.length) (f := fuel) (l := 0) (fun i => [bo (U i), .int (i : Int)]) (by omega) (fun i hi => ?_) ?_
    · refine tb rfl ?_
      have h0 : decide ((i : Int) < (ts.length : Int)) = true := by simpa using hi
      obtain ⟨p, q, r, ht, hp, hq, hr⟩ := hpar i hi
      have hx := idx_tl hi
      rw [ht] at hx
      have ha := add1n (i := i) (by omega)
      have hl3 : gev none .len [il [p, q, r]] = some (.int 3) := len_il (l := [p, q, r])
      have x0 : gev none .idx [il [p, q, r], .int 0] = some (.int p) := idx_il (l := [p, q, r]) (i := 0) (by simp)
      have x1 : gev none .idx [il [p, q, r], .int 1] = some (.int q) := idx_il (l := [p, q, r]) (i := 1) (by simp)
      have x2 : gev none .idx [il [p, q, r], .int 2] = some (.int r) := idx_il (l := [p, q, r]) (i := 2) (by simp)
      have hset := hus i hi p q r ht hp hq hr
      have hlen := hul i
      generalize U i = u at hset hlen ⊢
      rw [← hset]
      have key : ∀ (w : List Bool) (c : Int), w.length = vs.length → inr vs.length c = true → (∃ b, gev none .idx [bo w, .int c] = some (.bool b)) ∧ gev none .set [bo w, .int c, .bool true] = some (bo (w.set c.toNat true)) := by
        intro w c hw hc
        unfold inr at hc
        simp only [Bool.and_eq_true, decide_eq_true_eq] at hc
        have e : c = (c.toNat : Int) := by omega
        have h1 := idx_bo (l := w) (i := c.toNat) (by omega)
        have h2 := set_bo (l := w) (i := c.toNat) (v := true) (by omega)
        rw [← e] at h1 h2
        exact ⟨⟨_, h1⟩, h2⟩
      obtain ⟨⟨b0, i0⟩, s0⟩ := key u p hlen hp
      obtain ⟨⟨b1, i1⟩, s1⟩ := key (u.set p.toNat true) q (by simp [hlen]) hq
      obtain ⟨⟨b2, i2⟩, s2⟩ := key ((u.set p.toNat true).set q.toNat true) r (by simp [hlen]) hr
      have a0 := add1n (i := 0) (by omega)
      have a1 := add1n (i := 1) (by omega)
      have a2 := add1n (i := 2) (by omega)
      have hin : iter (tbody 2 (S169L0 G (il [p, q, r]) (.int 3))) fuel [bo u, .int 0] = some (0, [bo (((u.set p.toNat true).set q.toNat true).set r.toNat true), .int 3, .bool false]) := by
        rw [show fuel = 996 + 4 from hfu]
        refine iter_go (ds' := [bo (u.set p.toNat true), .int 1]) (tb rfl ?_) ?_
        · unfold S169L0
          repeat' first
            | with_reducible refine st_ift ?_
            | with_reducible refine st_iff ?_
            | ((with_reducible apply st_ift4); exact rfl)
            | ((with_reducible apply st_iff4); exact rfl)
            | ((with_reducible apply st_some); exact x0)
            | ((with_reducible apply st_some); exact x1)
            | ((with_reducible apply st_some); exact x2)
            | ((with_reducible apply st_some); exact i0)
            | ((with_reducible apply st_some); exact i1)
            | ((with_reducible apply st_some); exact i2)
            | ((with_reducible apply st_some); exact s0)
            | ((with_reducible apply st_some); exact s1)
            | ((with_reducible apply st_some); exact s2)
            | ((with_reducible apply st_some); exact a0)
            | ((with_reducible apply st_some); exact a1)
            | ((with_reducible apply st_some); exact a2)
            | ((with_reducible apply st_callt); assumption; exact rfl; exact rfl; assumption)
            | ((with_reducible apply st_callf); assumption; exact rfl; exact rfl; assumption)
            | ((with_reducible apply st_call); assumption; exact rfl; exact rfl; exact rfl)
            | ((with_reducible apply st_wide); exact rfl; exact rfl)
            | ((with_reducible apply st_skip); exact rfl)
            | ((with_reducible apply st_t); exact rfl; exact rfl)
            | ((with_reducible apply st_f); exact rfl; exact rfl)
            | ((with_reducible apply st_t); exact rfl; assumption)
            | ((with_reducible apply st_f); exact rfl; assumption)
            | ((with_reducible apply st_some); exact rfl)
            | exact rfl
        refine iter_go (ds' := [bo ((u.set p.toNat true).set q.toNat true), .int 2]) (tb rfl ?_) ?_
        · unfold S169L0
          repeat' first
            | with_reducible refine st_ift ?_
            | with_reducible refine st_iff ?_
            | ((with_reducible apply st_ift4); exact rfl)
            | ((with_reducible apply st_iff4); exact rfl)
            | ((with_reducible apply st_some); exact x0)
            | ((with_reducible apply st_some); exact x1)
            | ((with_reducible apply st_some); exact x2)
            | ((with_reducible apply st_some); exact i0)
            | ((with_reducible apply st_some); exact i1)
            | ((with_reducible apply st_some); exact i2)
            | ((with_reducible apply st_some); exact s0)
            | ((with_reducible apply st_some); exact s1)
            | ((with_reducible apply st_some); exact s2)
            | ((with_reducible apply st_some); exact a0)
            | ((with_reducible apply st_some); exact a1)
            | ((with_reducible apply st_some); exact a2)
            | ((with_reducible apply st_callt); assumption; exact rfl; exact rfl; assumption)
            | ((with_reducible apply st_callf); assumption; exact rfl; exact rfl; assumption)
            | ((with_reducible apply st_call); assumption; exact rfl; exact rfl; exact rfl)
            | ((with_reducible apply st_wide); exact rfl; exact rfl)
            | ((with_reducible apply st_skip); exact rfl)
            | ((with_reducible apply st_t); exact rfl; exact rfl)
            | ((with_reducible apply st_f); exact rfl; exact rfl)
            | ((with_reducible apply st_t); exact rfl; assumption)
            | ((with_reducible apply st_f); exact rfl; assumption)
            | ((with_reducible apply st_some); exact rfl)
            | exact rfl
        refine iter_go (ds' := [bo (((u.set p.toNat true).set q.toNat true).set r.toNat true), .int 3]) (tb rfl ?_) ?_
        · unfold S169L0
          repeat' first
            | with_reducible refine st_ift ?_
            | with_reducible refine st_iff ?_
            | ((with_reducible apply st_ift4); exact rfl)
            | ((with_reducible apply st_iff4); exact rfl)
            | ((with_reducible apply st_some); exact x0)
            | ((with_reducible apply st_some); exact x1)
            | ((with_reducible apply st_some); exact x2)
            | ((with_reducible apply st_some); exact i0)
            | ((with_reducible apply st_some); exact i1)
            | ((with_reducible apply st_some); exact i2)
            | ((with_reducible apply st_some); exact s0)
            | ((with_reducible apply st_some); exact s1)
            | ((with_reducible apply st_some); exact s2)
            | ((with_reducible apply st_some); exact a0)
            | ((with_reducible apply st_some); exact a1)
            | ((with_reducible apply st_some); exact a2)
            | ((with_reducible apply st_callt); assumption; exact rfl; exact rfl; assumption)
            | ((with_reducible apply st_callf); assumption; exact rfl; exact rfl; assumption)
            | ((with_reducible apply st_call); assumption; exact rfl; exact rfl; exact rfl)
            | ((with_reducible apply st_wide); exact rfl; exact rfl)
            | ((with_reducible apply st_skip); exact rfl)
            | ((with_reducible apply st_t); exact rfl; exact rfl)
            | ((with_reducible apply st_f); exact rfl; exact rfl)
            | ((with_reducible apply st_t); exact rfl; assumption)
            | ((with_reducible apply st_f); exact rfl; assumption)
            | ((with_reducible apply st_some); exact rfl)
            | exact rfl
        refine iter_end (l := 0) (ds' := [bo (((u.set p.toNat true).set q.toNat true).set r.toNat true), .int 3, .bool false]) (tb rfl ?_) rfl
        unfold S169L0
        repeat' first
          | with_reducible refine st_ift ?_
          | with_reducible refine st_iff ?_
          | ((with_reducible apply st_ift4); exact rfl)
          | ((with_reducible apply st_iff4); exact rfl)
          | ((with_reducible apply st_callt); assumption; exact rfl; exact rfl; assumption)
          | ((with_reducible apply st_callf); assumption; exact rfl; exact rfl; assumption)
          | ((with_reducible apply st_call); assumption; exact rfl; exact rfl; exact rfl)
          | ((with_reducible apply st_wide); exact rfl; exact rfl)
          | ((with_reducible apply st_skip); exact rfl)
          | ((with_reducible apply st_t); exact rfl; exact rfl)
          | ((with_reducible apply st_f); exact rfl; exact rfl)
          | ((with_reducible apply st_t); exact rfl; assumption)
          | ((with_reducible apply st_f); exact rfl; assumption)
          | ((with_reducible apply st_some); exact rfl)
          | exact rfl
      unfold S169L1
      repeat' first
        | with_reducible refine st_ift ?_
        | with_reducible refine st_iff ?_
        | ((with_reducible apply st_ift4); exact rfl)
        | ((with_reducible apply st_iff4); exact rfl)
        | ((with_reducible apply st_t); exact rfl; exact h0)
        | ((with_reducible apply st_join); exact hin; exact rfl)
        | ((with_reducible apply st_some); exact hx)
        | ((with_reducible apply st_some); exact hl3)
        | ((with_reducible apply st_some); exact ha)
        | ((with_reducible apply st_callt); assumption; exact rfl; exact rfl; assumption)
        | ((with_reducible apply st_callf); assumption; exact rfl; exact rfl; assumption)
        | ((with_reducible apply st_call); assumption; exact rfl; exact rfl; exact rfl)
        | ((with_reducible apply st_wide); exact rfl; exact rfl)
        | ((with_reducible apply st_skip); exact rfl)
        | ((with_reducible apply st_t); exact rfl; exact rfl)
        | ((with_reducible apply st_f); exact rfl; exact rfl)
        | ((with_reducible apply st_t); exact rfl; assumption)
        | ((with_reducible apply st_f); exact rfl; assumption)
        | ((with_reducible apply st_some); exact rfl)
        | exact rfl
    · refine tb rfl ?_
      have h0 : decide ((ts.length : Int) < (ts.length : Int)) = false := by simp
      unfold S169L1
      repeat' first
        | with_reducible refine st_ift ?_
        | with_reducible refine st_iff ?_
        | ((with_reducible apply st_ift4); exact rfl)
        | ((with_reducible apply st_iff4); exact rfl)
        | ((with_reducible apply st_f); exact rfl; exact h0)
        | ((with_reducible apply st_callt); assumption; exact rfl; exact rfl; assumption)
        | ((with_reducible apply st_callf); assumption; exact rfl; exact rfl; assumption)
        | ((with_reducible apply st_call); assumption; exact rfl; exact rfl; exact rfl)
        | ((with_reducible apply st_wide); exact rfl; exact rfl)
        | ((with_reducible apply st_skip); exact rfl)
        | ((with_reducible apply st_t); exact rfl; exact rfl)
        | ((with_reducible apply st_f); exact rfl; exact rfl)
        | ((with_reducible apply st_t); exact rfl; assumption)
        | ((with_reducible apply st_f); exact rfl; assumption)
        | ((with_reducible apply st_some); exact rfl)
        | exact rfl
  repeat' first
    | with_reducible refine st_ift ?_
    | with_reducible refine st_iff ?_
    | ((with_reducible apply st_ift4); exact rfl)
    | ((with_reducible apply st_iff4); exact rfl)
    | ((with_reducible apply st_some); with_reducible exact hrep)
    | ((with_reducible apply st_join); exact hloop; exact rfl)
    | ((with_reducible apply st_some); exact hn)
    | ((with_reducible apply st_some); exact hm)
    | ((with_reducible apply st_callt); assumption; exact rfl; exact rfl; assumption)
    | ((with_reducible apply st_callf); assumption; exact rfl; exact rfl; assumption)
    | ((with_reducible apply st_call); assumption; exact rfl; exact rfl; exact rfl)
    | ((with_reducible apply st_wide); exact rfl; exact rfl)
    | ((with_reducible apply st_skip); exact rfl)
    | ((with_reducible apply st_t); exact rfl; exact rfl)
    | ((with_reducible apply st_f); exact rfl; exact rfl)
    | ((with_reducible apply st_t); exact rfl; assumption)
    | ((with_reducible apply st_f); exact rfl; assumption)
    | ((with_reducible apply st_some); exact rfl)
    | exact rfl
set_option maxHeartbeats 4000000 in
theorem run170s {G : Told} (g150 : G 150 = F150) (g168 : G 168 = F168) : ∀ ds rs, F170 ds = some rs → ∃ fuel, run G fuel T170s ds = some (0, rs) := by
  intro ds rs h
  unfold F170 at h
  split at h
  case h_2 => cases h
  rename_i a b
  obtain ⟨vs, ha, h⟩ := Option.bind_eq_some_iff.1 h
  obtain ⟨ts, hb, h⟩ := Option.bind_eq_some_iff.1 h
  rw [dV_inv ha, dT_inv hb]
  split at h
  case isFalse => cases h
  rename_i hc
  simp only [Option.some.injEq] at h
  subst h
  have hz : szM vs ts = vs.length + ts.length + totL ts := by unfold szM; rfl
  have hv := F150_m hc
  have hn := len_vl (l := vs)
  have hm := len_tl (l := ts)
  have hfu : ∃ fuel, fuel = 1000 := ⟨_, rfl⟩
  obtain ⟨fuel, hfu⟩ := hfu
  refine ⟨fuel, ?_⟩
  rw [eq170s]
  unfold S170s
  rw [vl_nil, tl_nil]
  cases hval : validP vs.length ts
  case false =>
    rw [hval] at hv
    rw [if_neg (by simp)]
    repeat' first
      | with_reducible refine st_ift ?_
      | with_reducible refine st_iff ?_
      | ((with_reducible apply st_ift4); exact rfl)
      | ((with_reducible apply st_iff4); exact rfl)
      | ((with_reducible apply st_call); exact g150; exact rfl; exact hv; exact rfl)
      | ((with_reducible apply st_callt); assumption; exact rfl; exact rfl; assumption)
      | ((with_reducible apply st_callf); assumption; exact rfl; exact rfl; assumption)
      | ((with_reducible apply st_call); assumption; exact rfl; exact rfl; exact rfl)
      | ((with_reducible apply st_wide); exact rfl; exact rfl)
      | ((with_reducible apply st_skip); exact rfl)
      | ((with_reducible apply st_t); exact rfl; exact rfl)
      | ((with_reducible apply st_f); exact rfl; exact rfl)
      | ((with_reducible apply st_t); exact rfl; assumption)
      | ((with_reducible apply st_f); exact rfl; assumption)
      | ((with_reducible apply st_some); exact rfl)
      | exact rfl
  case true =>
    rw [hval] at hv
    rw [if_pos rfl]
    obtain ⟨hn64, h128, hpar⟩ := valid_parts hval
    have hrep := rep_il (n := vs.length) (by omega)
    have hloop1 : iter (tbody 3 (S170sL1 G (vl vs) (tl ts))) fuel [.lst [], il (List.replicate vs.length 0), .int 0] = some (0, [vl (dpN vs ts vs.length).1, il (dpN vs ts vs.length).2, .int (vs.length : Int), .int (vs.length : Int), .int (vs.length : Int), .bool false]) := by
      have h1 := iter_to (body := tbody 3 (S170sL1 G (vl vs) (tl ts))) (n := vs.length) (f := fuel) (l := 0) (ds := [vl (dpN vs ts vs.length).1, il (dpN vs ts vs.length).2, .int (vs.length : Int), .int (vs.length : Int), .int (vs.length : Int), .bool false])
        (fun i => [vl (dpN vs ts i).1, il (dpN vs ts i).2, .int (i : Int)]) (by omega) ?_ ?_
      · simpa [dpN, vl_nil] using h1
      · intro i hi
        refine tb rfl ?_
        have h0 : decide ((i : Int) < (vs.length : Int)) = true := by simpa using hi
        have hx := idx_vl hi
        have ha := add1n (i := i) (by omega)
        obtain ⟨hl1, hl2⟩ := dpN_len vs ts i
        have h3 : ∀ t ∈ ts, t.length = 3 := by
          intro t ht
          obtain ⟨j, hj, rfl⟩ := List.getElem_of_mem ht
          obtain ⟨p, q, r, e, _⟩ := hpar j hj
          rw [e]
          rfl
        have hf := F168_m (a := vl vs) (p := (i : Int)) (by omega : ts.length ≤ 1000) h3
        have hhl := len_il (l := hasN ts (i : Int) ts.length)
        have hu : decide (((hasN ts (i : Int) ts.length).length : Int) > 0) = usedP ts i := by
          have := hasN_any ts (i : Int) ts.length (Nat.le_refl _)
          rw [List.take_length] at this
          have e : usedP ts i = ts.any fun t => t.contains (i : Int) := by unfold usedP; rfl
          rw [e, ← this, decide_eq_decide]
          omega
        generalize hasN ts (i : Int) ts.length = hs at hf hhl hu
        simp only [dpN, getD_lt hi]
        generalize dpN vs ts i = o at hl1 hl2 ⊢
        obtain ⟨o, nu⟩ := o
        dsimp only at hl1 hl2 ⊢
        have ho := len_vl (l := o)
        have hxn := idx_il (l := nu) (i := i) (by omega)
        have hsn := set_il (l := nu) (i := i) (v := (o.length : Int)) (by omega)
        have hap := app_vl (l := o) (v := vs[i]) (by omega)
        cases hus : usedP ts i
        · rw [hus] at hu
          rw [if_neg (by simp)]
          unfold S170sL1
          repeat' first
            | with_reducible refine st_ift ?_
            | with_reducible refine st_iff ?_
            | ((with_reducible apply st_ift4); exact rfl)
            | ((with_reducible apply st_iff4); exact rfl)
            | ((with_reducible apply st_f); exact rfl; exact hu)
            | (with_reducible refine st_join (ds := [vl o, il nu]) ?_ ?_ ?_)
            | ((with_reducible apply st_call); exact g168; exact rfl; exact hf; exact rfl)
            | ((with_reducible apply st_some); exact hn)
            | ((with_reducible apply st_some); exact hhl)
            | ((with_reducible apply st_some); exact hx)
            | ((with_reducible apply st_some); exact ha)
            | ((with_reducible apply st_callt); assumption; exact rfl; exact rfl; assumption)
            | ((with_reducible apply st_callf); assumption; exact rfl; exact rfl; assumption)
            | ((with_reducible apply st_call); assumption; exact rfl; exact rfl; exact rfl)
            | ((with_reducible apply st_wide); exact rfl; exact rfl)
            | ((with_reducible apply st_skip); exact rfl)
            | ((with_reducible apply st_t); exact rfl; exact rfl)
            | ((with_reducible apply st_f); exact rfl; exact rfl)
            | ((with_reducible apply st_t); exact rfl; assumption)
            | ((with_reducible apply st_f); exact rfl; assumption)
            | ((with_reducible apply st_some); exact rfl)
            | exact rfl
        · rw [hus] at hu
          rw [if_pos rfl]
          unfold S170sL1
          repeat' first
            | with_reducible refine st_ift ?_
            | with_reducible refine st_iff ?_
            | ((with_reducible apply st_ift4); exact rfl)
            | ((with_reducible apply st_iff4); exact rfl)
            | ((with_reducible apply st_t); exact rfl; exact hu)
            | (with_reducible refine st_join (ds := [vl (o ++ [vs[i]]), il (nu.set i (o.length : Int))]) ?_ ?_ ?_)
            | ((with_reducible apply st_call); exact g168; exact rfl; exact hf; exact rfl)
            | ((with_reducible apply st_some); exact hn)
            | ((with_reducible apply st_some); exact hhl)
            | ((with_reducible apply st_some); exact hx)
            | ((with_reducible apply st_some); exact ha)
            | ((with_reducible apply st_some); exact ho)
            | ((with_reducible apply st_some); exact hxn)
            | ((with_reducible apply st_some); exact hsn)
            | ((with_reducible apply st_some); exact hap)
            | ((with_reducible apply st_callt); assumption; exact rfl; exact rfl; assumption)
            | ((with_reducible apply st_callf); assumption; exact rfl; exact rfl; assumption)
            | ((with_reducible apply st_call); assumption; exact rfl; exact rfl; exact rfl)
            | ((with_reducible apply st_wide); exact rfl; exact rfl)
            | ((with_reducible apply st_skip); exact rfl)
            | ((with_reducible apply st_t); exact rfl; exact rfl)
            | ((with_reducible apply st_f); exact rfl; exact rfl)
            | ((with_reducible apply st_t); exact rfl; assumption)
            | ((with_reducible apply st_f); exact rfl; assumption)
            | ((with_reducible apply st_some); exact rfl)
            | exact rfl
      · refine tb rfl ?_
        have h0 : decide ((vs.length : Int) < (vs.length : Int)) = false := by simp
        unfold S170sL1
        repeat' first
          | with_reducible refine st_ift ?_
          | with_reducible refine st_iff ?_
          | ((with_reducible apply st_ift4); exact rfl)
          | ((with_reducible apply st_iff4); exact rfl)
          | ((with_reducible apply st_some); exact hn)
          | ((with_reducible apply st_callt); assumption; exact rfl; exact rfl; assumption)
          | ((with_reducible apply st_callf); assumption; exact rfl; exact rfl; assumption)
          | ((with_reducible apply st_call); assumption; exact rfl; exact rfl; exact rfl)
          | ((with_reducible apply st_wide); exact rfl; exact rfl)
          | ((with_reducible apply st_skip); exact rfl)
          | ((with_reducible apply st_t); exact rfl; exact rfl)
          | ((with_reducible apply st_f); exact rfl; exact rfl)
          | ((with_reducible apply st_t); exact rfl; assumption)
          | ((with_reducible apply st_f); exact rfl; assumption)
          | ((with_reducible apply st_some); exact rfl)
          | exact rfl
    obtain ⟨_, hnl⟩ := dpN_len vs ts vs.length
    have e1 : ptsD vs ts = (dpN vs ts vs.length).1 := rfl
    have e2 : numD vs ts = (dpN vs ts vs.length).2 := rfl
    rw [e1, e2]
    generalize (dpN vs ts vs.length).2 = nu at *
    generalize (dpN vs ts vs.length).1 = po at *
    have hloop2 : iter (tbody 2 (S170sL0 G (tl ts) [vl po, il nu, .int (vs.length : Int), .int (vs.length : Int), .int (vs.length : Int), .bool false])) fuel [.lst [], .int 0] = some (0, [tl (trisD nu ts), .int (ts.length : Int), .int (ts.length : Int), .int (ts.length : Int), .bool false]) := by
      have h1 := iter_to (body := tbody 2 (S170sL0 G (tl ts) [vl po, il nu, .int (vs.length : Int), .int (vs.length : Int), .int (vs.length : Int), .bool false])) (n := ts.length) (f := fuel) (l := 0) (ds := [tl (trisD nu ts), .int (ts.length : Int), .int (ts.length : Int), .int (ts.length : Int), .bool false])
        (fun i => [tl ((trisD nu ts).take i), .int (i : Int)]) (by omega) ?_ ?_
      · simpa [tl_nil] using h1
      · intro i hi
        refine tb rfl ?_
        have h0 : decide ((i : Int) < (ts.length : Int)) = true := by simpa using hi
        obtain ⟨p, q, r, ht, hp, hq, hr⟩ := hpar i hi
        have hx := idx_tl hi
        rw [ht] at hx
        have ha := add1n (i := i) (by omega)
        have x0 : gev none .idx [il [p, q, r], .int 0] = some (.int p) := idx_il (l := [p, q, r]) (i := 0) (by simp)
        have x1 : gev none .idx [il [p, q, r], .int 1] = some (.int q) := idx_il (l := [p, q, r]) (i := 1) (by simp)
        have x2 : gev none .idx [il [p, q, r], .int 2] = some (.int r) := idx_il (l := [p, q, r]) (i := 2) (by simp)
        have y0 := idx_in hnl hp
        have y1 := idx_in hnl hq
        have y2 := idx_in hnl hr
        have htl := trisD_len nu ts
        have hgt : (trisD nu ts)[i]'(by omega) = [nu.getD p.toNat 0, nu.getD q.toNat 0, nu.getD r.toNat 0] := by
          unfold trisD
          simp only [List.getElem_map, ht, List.map_cons, List.map_nil]
        have hap := app_tl (l := (trisD nu ts).take i) (v := (trisD nu ts)[i]'(by omega)) (by simp; omega)
        rw [← take_step, hgt] at hap
        have hil : (il [nu.getD p.toNat 0, nu.getD q.toNat 0, nu.getD r.toNat 0]) = .lst [.int (nu.getD p.toNat 0), .int (nu.getD q.toNat 0), .int (nu.getD r.toNat 0)] := by unfold il; rfl
        rw [hil] at hap
        generalize nu.getD p.toNat 0 = np at *
        generalize nu.getD q.toNat 0 = nq at *
        generalize nu.getD r.toNat 0 = nr at *
        generalize tl ((trisD nu ts).take i) = t1 at hap ⊢
        generalize tl ((trisD nu ts).take (i + 1)) = t2 at hap ⊢
        unfold S170sL0
        repeat' first
          | with_reducible refine st_ift ?_
          | with_reducible refine st_iff ?_
          | ((with_reducible apply st_ift4); exact rfl)
          | ((with_reducible apply st_iff4); exact rfl)
          | ((with_reducible apply st_some); exact hm)
          | ((with_reducible apply st_some); exact hx)
          | ((with_reducible apply st_some); exact x0)
          | ((with_reducible apply st_some); exact x1)
          | ((with_reducible apply st_some); exact x2)
          | ((with_reducible apply st_some); exact y0)
          | ((with_reducible apply st_some); exact y1)
          | ((with_reducible apply st_some); exact y2)
          | ((with_reducible apply st_some); exact hap)
          | ((with_reducible apply st_some); exact ha)
          | ((with_reducible apply st_callt); assumption; exact rfl; exact rfl; assumption)
          | ((with_reducible apply st_callf); assumption; exact rfl; exact rfl; assumption)
          | ((with_reducible apply st_call); assumption; exact rfl; exact rfl; exact rfl)
          | ((with_reducible apply st_wide); exact rfl; exact rfl)
          | ((with_reducible apply st_skip); exact rfl)
          | ((with_reducible apply st_t); exact rfl; exact rfl)
          | ((with_reducible apply st_f); exact rfl; exact rfl)
          | ((with_reducible apply st_t); exact rfl; assumption)
          | ((with_reducible apply st_f); exact rfl; assumption)
          | ((with_reducible apply st_some); exact rfl)
          | exact rfl
      · refine tb rfl ?_
        have h0 : decide ((ts.length : Int) < (ts.length : Int)) = false := by simp
        have e : (trisD nu ts).take ts.length = trisD nu ts := by rw [← trisD_len nu ts]; exact List.take_length
        rw [e]
        unfold S170sL0
        repeat' first
          | with_reducible refine st_ift ?_
          | with_reducible refine st_iff ?_
          | ((with_reducible apply st_ift4); exact rfl)
          | ((with_reducible apply st_iff4); exact rfl)
          | ((with_reducible apply st_some); exact hm)
          | ((with_reducible apply st_callt); assumption; exact rfl; exact rfl; assumption)
          | ((with_reducible apply st_callf); assumption; exact rfl; exact rfl; assumption)
          | ((with_reducible apply st_call); assumption; exact rfl; exact rfl; exact rfl)
          | ((with_reducible apply st_wide); exact rfl; exact rfl)
          | ((with_reducible apply st_skip); exact rfl)
          | ((with_reducible apply st_t); exact rfl; exact rfl)
          | ((with_reducible apply st_f); exact rfl; exact rfl)
          | ((with_reducible apply st_t); exact rfl; assumption)
          | ((with_reducible apply st_f); exact rfl; assumption)
          | ((with_reducible apply st_some); exact rfl)
          | exact rfl
    repeat' first
      | with_reducible refine st_ift ?_
      | with_reducible refine st_iff ?_
      | ((with_reducible apply st_ift4); exact rfl)
      | ((with_reducible apply st_iff4); exact rfl)
      | ((with_reducible apply st_call); exact g150; exact rfl; exact hv; exact rfl)
      | ((with_reducible apply st_some); with_reducible exact hrep)
      | ((with_reducible apply st_join); exact hloop1; exact rfl)
      | ((with_reducible apply st_join); exact hloop2; exact rfl)
      | ((with_reducible apply st_some); exact hn)
      | ((with_reducible apply st_callt); assumption; exact rfl; exact rfl; assumption)
      | ((with_reducible apply st_callf); assumption; exact rfl; exact rfl; assumption)
      | ((with_reducible apply st_call); assumption; exact rfl; exact rfl; exact rfl)
      | ((with_reducible apply st_wide); exact rfl; exact rfl)
      | ((with_reducible apply st_skip); exact rfl)
      | ((with_reducible apply st_t); exact rfl; exact rfl)
      | ((with_reducible apply st_f); exact rfl; exact rfl)
      | ((with_reducible apply st_t); exact rfl; assumption)
      | ((with_reducible apply st_f); exact rfl; assumption)
      | ((with_reducible apply st_some); exact rfl)
      | exact rfl
set_option maxHeartbeats 4000000 in
theorem run170 {G : Told} (g150 : G 150 = F150) (g169 : G 169 = F169) : ∀ ds rs, F170 ds = some rs → ∃ fuel, run G fuel T170 ds = some (0, rs) := by
  intro ds rs h
  unfold F170 at h
  split at h
  case h_2 => cases h
  rename_i a b
  obtain ⟨vs, ha, h⟩ := Option.bind_eq_some_iff.1 h
  obtain ⟨ts, hb, h⟩ := Option.bind_eq_some_iff.1 h
  rw [dV_inv ha, dT_inv hb]
  split at h
  case isFalse => cases h
  rename_i hc
  simp only [Option.some.injEq] at h
  subst h
  have hz : szM vs ts = vs.length + ts.length + totL ts := by unfold szM; rfl
  have hv := F150_m hc
  have hn := len_vl (l := vs)
  have hm := len_tl (l := ts)
  have hfu : ∃ fuel, fuel = 1000 := ⟨_, rfl⟩
  obtain ⟨fuel, hfu⟩ := hfu
  refine ⟨fuel, ?_⟩
  rw [eq170]
  unfold S170
  rw [vl_nil, tl_nil]
  cases hval : validP vs.length ts
  case false =>
    rw [hval] at hv
    rw [if_neg (by simp)]
    repeat' first
      | with_reducible refine st_ift ?_
      | with_reducible refine st_iff ?_
      | ((with_reducible apply st_ift4); exact rfl)
      | ((with_reducible apply st_iff4); exact rfl)
      | ((with_reducible apply st_call); exact g150; exact rfl; exact hv; exact rfl)
      | ((with_reducible apply st_callt); assumption; exact rfl; exact rfl; assumption)
      | ((with_reducible apply st_callf); assumption; exact rfl; exact rfl; assumption)
      | ((with_reducible apply st_call); assumption; exact rfl; exact rfl; exact rfl)
      | ((with_reducible apply st_wide); exact rfl; exact rfl)
      | ((with_reducible apply st_skip); exact rfl)
      | ((with_reducible apply st_t); exact rfl; exact rfl)
      | ((with_reducible apply st_f); exact rfl; exact rfl)
      | ((with_reducible apply st_t); exact rfl; assumption)
      | ((with_reducible apply st_f); exact rfl; assumption)
      | ((with_reducible apply st_some); exact rfl)
      | exact rfl
  case true =>
    rw [hval] at hv
    rw [if_pos rfl]
    obtain ⟨hn64, h128, hpar⟩ := valid_parts hval
    have hrep := rep_il (n := vs.length) (by omega)
    have hf := F169_m hval
    have hnb := len_bo (l := (List.range vs.length).map (usedP ts))
    rw [List.length_map, List.length_range] at hnb
    have hloop1 : iter (tbody 3 (S170L1 G (vl vs) [bo ((List.range vs.length).map (usedP ts))] (.int (vs.length : Int)))) fuel [il (List.replicate vs.length 0), .lst [], .int 0] = some (0, [il (dpN vs ts vs.length).2, vl (dpN vs ts vs.length).1, .int (vs.length : Int), .bool false]) := by
      have h1 := iter_to (body := tbody 3 (S170L1 G (vl vs) [bo ((List.range vs.length).map (usedP ts))] (.int (vs.length : Int)))) (n := vs.length) (f := fuel) (l := 0) (ds := [il (dpN vs ts vs.length).2, vl (dpN vs ts vs.length).1, .int (vs.length : Int), .bool false])
        (fun i => [il (dpN vs ts i).2, vl (dpN vs ts i).1, .int (i : Int)]) (by omega) ?_ ?_
      · simpa [dpN, vl_nil] using h1
      · intro i hi
        refine tb rfl ?_
        have h0 : decide ((i : Int) < (vs.length : Int)) = true := by simpa using hi
        have hx := idx_vl hi
        have ha := add1n (i := i) (by omega)
        obtain ⟨hl1, hl2⟩ := dpN_len vs ts i
        have hxb := idx_bo (l := (List.range vs.length).map (usedP ts)) (i := i) (by simp; omega)
        rw [List.getElem_map, List.getElem_range] at hxb
        simp only [dpN, getD_lt hi]
        generalize dpN vs ts i = o at hl1 hl2 ⊢
        obtain ⟨o, nu⟩ := o
        dsimp only at hl1 hl2 ⊢
        have ho := len_vl (l := o)
        have hxn := idx_il (l := nu) (i := i) (by omega)
        have hsn := set_il (l := nu) (i := i) (v := (o.length : Int)) (by omega)
        have hap := app_vl (l := o) (v := vs[i]) (by omega)
        cases hus : usedP ts i
        · rw [hus] at hxb
          rw [if_neg (by simp)]
          unfold S170L1
          repeat' first
            | with_reducible refine st_ift ?_
            | with_reducible refine st_iff ?_
            | ((with_reducible apply st_ift4); exact rfl)
            | ((with_reducible apply st_iff4); exact rfl)
            | (with_reducible refine st_join (ds := [il nu, vl o]) ?_ ?_ ?_)
            | ((with_reducible apply st_some); exact hxb)
            | ((with_reducible apply st_some); exact hx)
            | ((with_reducible apply st_some); exact ha)
            | ((with_reducible apply st_callt); assumption; exact rfl; exact rfl; assumption)
            | ((with_reducible apply st_callf); assumption; exact rfl; exact rfl; assumption)
            | ((with_reducible apply st_call); assumption; exact rfl; exact rfl; exact rfl)
            | ((with_reducible apply st_wide); exact rfl; exact rfl)
            | ((with_reducible apply st_skip); exact rfl)
            | ((with_reducible apply st_t); exact rfl; exact rfl)
            | ((with_reducible apply st_f); exact rfl; exact rfl)
            | ((with_reducible apply st_t); exact rfl; assumption)
            | ((with_reducible apply st_f); exact rfl; assumption)
            | ((with_reducible apply st_some); exact rfl)
            | exact rfl
        · rw [hus] at hxb
          rw [if_pos rfl]
          unfold S170L1
          repeat' first
            | with_reducible refine st_ift ?_
            | with_reducible refine st_iff ?_
            | ((with_reducible apply st_ift4); exact rfl)
            | ((with_reducible apply st_iff4); exact rfl)
            | (with_reducible refine st_join (ds := [il (nu.set i (o.length : Int)), vl (o ++ [vs[i]])]) ?_ ?_ ?_)
            | ((with_reducible apply st_some); exact hxb)
            | ((with_reducible apply st_some); exact hx)
            | ((with_reducible apply st_some); exact ha)
            | ((with_reducible apply st_some); exact ho)
            | ((with_reducible apply st_some); exact hxn)
            | ((with_reducible apply st_some); exact hsn)
            | ((with_reducible apply st_some); exact hap)
            | ((with_reducible apply st_callt); assumption; exact rfl; exact rfl; assumption)
            | ((with_reducible apply st_callf); assumption; exact rfl; exact rfl; assumption)
            | ((with_reducible apply st_call); assumption; exact rfl; exact rfl; exact rfl)
            | ((with_reducible apply st_wide); exact rfl; exact rfl)
            | ((with_reducible apply st_skip); exact rfl)
            | ((with_reducible apply st_t); exact rfl; exact rfl)
            | ((with_reducible apply st_f); exact rfl; exact rfl)
            | ((with_reducible apply st_t); exact rfl; assumption)
            | ((with_reducible apply st_f); exact rfl; assumption)
            | ((with_reducible apply st_some); exact rfl)
            | exact rfl
      · refine tb rfl ?_
        have h0 : decide ((vs.length : Int) < (vs.length : Int)) = false := by simp
        unfold S170L1
        repeat' first
          | with_reducible refine st_ift ?_
          | with_reducible refine st_iff ?_
          | ((with_reducible apply st_ift4); exact rfl)
          | ((with_reducible apply st_iff4); exact rfl)
          | ((with_reducible apply st_callt); assumption; exact rfl; exact rfl; assumption)
          | ((with_reducible apply st_callf); assumption; exact rfl; exact rfl; assumption)
          | ((with_reducible apply st_call); assumption; exact rfl; exact rfl; exact rfl)
          | ((with_reducible apply st_wide); exact rfl; exact rfl)
          | ((with_reducible apply st_skip); exact rfl)
          | ((with_reducible apply st_t); exact rfl; exact rfl)
          | ((with_reducible apply st_f); exact rfl; exact rfl)
          | ((with_reducible apply st_t); exact rfl; assumption)
          | ((with_reducible apply st_f); exact rfl; assumption)
          | ((with_reducible apply st_some); exact rfl)
          | exact rfl
    obtain ⟨_, hnl⟩ := dpN_len vs ts vs.length
    have e1 : ptsD vs ts = (dpN vs ts vs.length).1 := rfl
    have e2 : numD vs ts = (dpN vs ts vs.length).2 := rfl
    rw [e1, e2]
    generalize (dpN vs ts vs.length).2 = nu at *
    generalize (dpN vs ts vs.length).1 = po at *
    have hloop2 : iter (tbody 2 (S170L0 G (tl ts) [il nu, vl po, .int (vs.length : Int), .bool false] (.int (ts.length : Int)))) fuel [.lst [], .int 0] = some (0, [tl (trisD nu ts), .int (ts.length : Int), .bool false]) := by
      have h1 := iter_to (body := tbody 2 (S170L0 G (tl ts) [il nu, vl po, .int (vs.length : Int), .bool false] (.int (ts.length : Int)))) (n := ts.length) (f := fuel) (l := 0) (ds := [tl (trisD nu ts), .int (ts.length : Int), .bool false])
        (fun i => [tl ((trisD nu ts).take i), .int (i : Int)]) (by omega) ?_ ?_
      · simpa [tl_nil] using h1
      · intro i hi
        refine tb rfl ?_
        have h0 : decide ((i : Int) < (ts.length : Int)) = true := by simpa using hi
        obtain ⟨p, q, r, ht, hp, hq, hr⟩ := hpar i hi
        have hx := idx_tl hi
        rw [ht] at hx
        have ha := add1n (i := i) (by omega)
        have x0 : gev none .idx [il [p, q, r], .int 0] = some (.int p) := idx_il (l := [p, q, r]) (i := 0) (by simp)
        have x1 : gev none .idx [il [p, q, r], .int 1] = some (.int q) := idx_il (l := [p, q, r]) (i := 1) (by simp)
        have x2 : gev none .idx [il [p, q, r], .int 2] = some (.int r) := idx_il (l := [p, q, r]) (i := 2) (by simp)
        have y0 := idx_in hnl hp
        have y1 := idx_in hnl hq
        have y2 := idx_in hnl hr
        have htl := trisD_len nu ts
        have hgt : (trisD nu ts)[i]'(by omega) = [nu.getD p.toNat 0, nu.getD q.toNat 0, nu.getD r.toNat 0] := by
          unfold trisD
          simp only [List.getElem_map, ht, List.map_cons, List.map_nil]
        have hap := app_tl (l := (trisD nu ts).take i) (v := (trisD nu ts)[i]'(by omega)) (by simp; omega)
        rw [← take_step, hgt] at hap
        have hil : (il [nu.getD p.toNat 0, nu.getD q.toNat 0, nu.getD r.toNat 0]) = .lst [.int (nu.getD p.toNat 0), .int (nu.getD q.toNat 0), .int (nu.getD r.toNat 0)] := by unfold il; rfl
        rw [hil] at hap
        generalize nu.getD p.toNat 0 = np at *
        generalize nu.getD q.toNat 0 = nq at *
        generalize nu.getD r.toNat 0 = nr at *
        generalize tl ((trisD nu ts).take i) = t1 at hap ⊢
        generalize tl ((trisD nu ts).take (i + 1)) = t2 at hap ⊢
        unfold S170L0
        repeat' first
          | with_reducible refine st_ift ?_
          | with_reducible refine st_iff ?_
          | ((with_reducible apply st_ift4); exact rfl)
          | ((with_reducible apply st_iff4); exact rfl)
          | ((with_reducible apply st_some); exact hm)
          | ((with_reducible apply st_some); exact hx)
          | ((with_reducible apply st_some); exact x0)
          | ((with_reducible apply st_some); exact x1)
          | ((with_reducible apply st_some); exact x2)
          | ((with_reducible apply st_some); exact y0)
          | ((with_reducible apply st_some); exact y1)
          | ((with_reducible apply st_some); exact y2)
          | ((with_reducible apply st_some); exact hap)
          | ((with_reducible apply st_some); exact ha)
          | ((with_reducible apply st_callt); assumption; exact rfl; exact rfl; assumption)
          | ((with_reducible apply st_callf); assumption; exact rfl; exact rfl; assumption)
          | ((with_reducible apply st_call); assumption; exact rfl; exact rfl; exact rfl)
          | ((with_reducible apply st_wide); exact rfl; exact rfl)
          | ((with_reducible apply st_skip); exact rfl)
          | ((with_reducible apply st_t); exact rfl; exact rfl)
          | ((with_reducible apply st_f); exact rfl; exact rfl)
          | ((with_reducible apply st_t); exact rfl; assumption)
          | ((with_reducible apply st_f); exact rfl; assumption)
          | ((with_reducible apply st_some); exact rfl)
          | exact rfl
      · refine tb rfl ?_
        have h0 : decide ((ts.length : Int) < (ts.length : Int)) = false := by simp
        have e : (trisD nu ts).take ts.length = trisD nu ts := by rw [← trisD_len nu ts]; exact List.take_length
        rw [e]
        unfold S170L0
        repeat' first
          | with_reducible refine st_ift ?_
          | with_reducible refine st_iff ?_
          | ((with_reducible apply st_ift4); exact rfl)
          | ((with_reducible apply st_iff4); exact rfl)
          | ((with_reducible apply st_callt); assumption; exact rfl; exact rfl; assumption)
          | ((with_reducible apply st_callf); assumption; exact rfl; exact rfl; assumption)
          | ((with_reducible apply st_call); assumption; exact rfl; exact rfl; exact rfl)
          | ((with_reducible apply st_wide); exact rfl; exact rfl)
          | ((with_reducible apply st_skip); exact rfl)
          | ((with_reducible apply st_t); exact rfl; exact rfl)
          | ((with_reducible apply st_f); exact rfl; exact rfl)
          | ((with_reducible apply st_t); exact rfl; assumption)
          | ((with_reducible apply st_f); exact rfl; assumption)
          | ((with_reducible apply st_some); exact rfl)
          | exact rfl
    repeat' first
      | with_reducible refine st_ift ?_
      | with_reducible refine st_iff ?_
      | ((with_reducible apply st_ift4); exact rfl)
      | ((with_reducible apply st_iff4); exact rfl)
      | ((with_reducible apply st_call); exact g150; exact rfl; exact hv; exact rfl)
      | ((with_reducible apply st_some); with_reducible exact hrep)
      | ((with_reducible apply st_call); exact g169; exact rfl; exact hf; exact rfl)
      | ((with_reducible apply st_join); exact hloop1; exact rfl)
      | ((with_reducible apply st_join); exact hloop2; exact rfl)
      | ((with_reducible apply st_some); exact hn)
      | ((with_reducible apply st_some); exact hnb)
      | ((with_reducible apply st_some); exact hm)
      | ((with_reducible apply st_callt); assumption; exact rfl; exact rfl; assumption)
      | ((with_reducible apply st_callf); assumption; exact rfl; exact rfl; assumption)
      | ((with_reducible apply st_call); assumption; exact rfl; exact rfl; exact rfl)
      | ((with_reducible apply st_wide); exact rfl; exact rfl)
      | ((with_reducible apply st_skip); exact rfl)
      | ((with_reducible apply st_t); exact rfl; exact rfl)
      | ((with_reducible apply st_f); exact rfl; exact rfl)
      | ((with_reducible apply st_t); exact rfl; assumption)
      | ((with_reducible apply st_f); exact rfl; assumption)
      | ((with_reducible apply st_some); exact rfl)
      | exact rfl
set_option maxHeartbeats 4000000 in
theorem run171 {G : Told} (g142 : G 142 = F142) (g145 : G 145 = F145) (g146 : G 146 = F146) (g147 : G 147 = F147) (g148 : G 148 = F148) (g170 : G 170 = F170) : ∀ ds rs, F171 ds = some rs → ∃ fuel, run G fuel T171 ds = some (0, rs) := by
  intro ds rs h
  unfold F171 at h
  split at h
  case h_2 => cases h
  rename_i a b
  obtain ⟨vs, ha, h⟩ := Option.bind_eq_some_iff.1 h
  obtain ⟨ts, hb, h⟩ := Option.bind_eq_some_iff.1 h
  rw [dV_inv ha, dT_inv hb]
  split at h
  case isFalse => cases h
  rename_i hc
  simp only [Option.some.injEq] at h
  subst h
  refine ⟨0, ?_⟩
  rw [eq171]
  unfold S171
  have z1 := F142_m hc
  by_cases hsz : szM vs ts ≤ 1048576
  case neg =>
    rw [szP_neg hsz] at z1
    repeat' first
      | with_reducible refine st_ift ?_
      | with_reducible refine st_iff ?_
      | ((with_reducible apply st_ift4); exact rfl)
      | ((with_reducible apply st_iff4); exact rfl)
      | ((with_reducible apply st_call); exact g142; exact rfl; exact z1; exact rfl)
      | ((with_reducible apply st_callt); assumption; exact rfl; exact rfl; assumption)
      | ((with_reducible apply st_callf); assumption; exact rfl; exact rfl; assumption)
      | ((with_reducible apply st_call); assumption; exact rfl; exact rfl; exact rfl)
      | ((with_reducible apply st_wide); exact rfl; exact rfl)
      | ((with_reducible apply st_skip); exact rfl)
      | ((with_reducible apply st_t); exact rfl; exact rfl)
      | ((with_reducible apply st_f); exact rfl; exact rfl)
      | ((with_reducible apply st_t); exact rfl; assumption)
      | ((with_reducible apply st_f); exact rfl; assumption)
      | ((with_reducible apply st_some); exact rfl)
      | exact rfl
  rw [szP_pos hsz] at z1
  have d1 : decide ((1048576 : Int) - (szM vs ts : Nat) < 0) = false := by simp; omega
  have hz : szM vs ts = vs.length + ts.length + totL ts := by unfold szM; rfl
  have t1 := F145_m hsz
  have q1 := F146_m hsz
  have m1 := F147_m (m := 1) hsz (by omega) (by omega)
  have d3 : decide ((1 : Int) + 3 * vs.length + totL ts < 0) = false := by simp; omega
  have hr : ∃ us ss b, F170 [vl vs, tl ts] = some [vl us, tl ss, .bool b] ∧ szM us ss ≤ 1048576 := by
    rw [F170_m hsz]
    split
    · refine ⟨_, _, _, rfl, ?_⟩
      have h1 := (dpN_len vs ts vs.length).1
      have h2 := trisD_tot (numD vs ts) ts
      have h3 := trisD_len (numD vs ts) ts
      have h4 : (ptsD vs ts).length ≤ vs.length := h1
      unfold szM at hsz ⊢
      omega
    · exact ⟨_, _, _, rfl, by unfold szM totL; simp⟩
  obtain ⟨us, ss, b, hr, hu⟩ := hr
  have hzu : szM us ss = us.length + ss.length + totL ss := by unfold szM; rfl
  have q3 := F146_m hu
  have m3 := F147_m (m := 1) hu (by omega) (by omega)
  have n3 := F148_m (m := 1) hu (by omega) (by omega)
  have d4 : decide ((1 : Int) + 3 * us.length + totL ss < 0) = false := by simp; omega
  have d5 : ((1 : Int) + 3 * us.length + totL ss != 1 + 3 * us.length + totL ss) = false := by simp
  cases b
  · repeat' first
      | with_reducible refine st_ift ?_
      | with_reducible refine st_iff ?_
      | ((with_reducible apply st_ift4); exact rfl)
      | ((with_reducible apply st_iff4); exact rfl)
      | ((with_reducible apply st_call); exact g142; exact rfl; exact z1; exact rfl)
      | ((with_reducible apply st_call); exact g170; exact rfl; exact hr; exact rfl)
      | ((with_reducible apply st_call); exact g145; exact rfl; exact t1; exact rfl)
      | ((with_reducible apply st_call); exact g146; exact rfl; exact q1; exact rfl)
      | ((with_reducible apply st_call); exact g146; exact rfl; exact q3; exact rfl)
      | ((with_reducible apply st_call); exact g147; exact rfl; exact m1; exact rfl)
      | ((with_reducible apply st_call); exact g147; exact rfl; exact m3; exact rfl)
      | ((with_reducible apply st_call); exact g148; exact rfl; exact n3; exact rfl)
      | ((with_reducible apply st_callt); assumption; exact rfl; exact rfl; assumption)
      | ((with_reducible apply st_callf); assumption; exact rfl; exact rfl; assumption)
      | ((with_reducible apply st_call); assumption; exact rfl; exact rfl; exact rfl)
      | ((with_reducible apply st_wide); exact rfl; exact rfl)
      | ((with_reducible apply st_skip); exact rfl)
      | ((with_reducible apply st_t); exact rfl; exact rfl)
      | ((with_reducible apply st_f); exact rfl; exact rfl)
      | ((with_reducible apply st_t); exact rfl; assumption)
      | ((with_reducible apply st_f); exact rfl; assumption)
      | ((with_reducible apply st_some); exact rfl)
      | exact rfl
  · repeat' first
      | with_reducible refine st_ift ?_
      | with_reducible refine st_iff ?_
      | ((with_reducible apply st_ift4); exact rfl)
      | ((with_reducible apply st_iff4); exact rfl)
      | ((with_reducible apply st_call); exact g142; exact rfl; exact z1; exact rfl)
      | ((with_reducible apply st_call); exact g170; exact rfl; exact hr; exact rfl)
      | ((with_reducible apply st_call); exact g145; exact rfl; exact t1; exact rfl)
      | ((with_reducible apply st_call); exact g146; exact rfl; exact q1; exact rfl)
      | ((with_reducible apply st_call); exact g146; exact rfl; exact q3; exact rfl)
      | ((with_reducible apply st_call); exact g147; exact rfl; exact m1; exact rfl)
      | ((with_reducible apply st_call); exact g147; exact rfl; exact m3; exact rfl)
      | ((with_reducible apply st_call); exact g148; exact rfl; exact n3; exact rfl)
      | ((with_reducible apply st_callt); assumption; exact rfl; exact rfl; assumption)
      | ((with_reducible apply st_callf); assumption; exact rfl; exact rfl; assumption)
      | ((with_reducible apply st_call); assumption; exact rfl; exact rfl; exact rfl)
      | ((with_reducible apply st_wide); exact rfl; exact rfl)
      | ((with_reducible apply st_skip); exact rfl)
      | ((with_reducible apply st_t); exact rfl; exact rfl)
      | ((with_reducible apply st_f); exact rfl; exact rfl)
      | ((with_reducible apply st_t); exact rfl; assumption)
      | ((with_reducible apply st_f); exact rfl; assumption)
      | ((with_reducible apply st_some); exact rfl)
      | exact rfl

end Vs
