/-
  Colours of springs: ColoursOf, CountColours: what the functions compute, and the laws.
-/
import Derived.Test.YtjgbalnanfngjaaK11
namespace Vs
open Go

theorem st_ift2 {c : D} {a b X : Option (Nat × List D)} (h : c = .bool true) (k : a = X) : tif c a b = X := by subst h; exact k
theorem st_iff2 {c : D} {a b X : Option (Nat × List D)} (h : c = .bool false) (k : b = X) : tif c a b = X := by subst h; exact k

/-! ### Lists of truth values -/
def bl (l : List Bool) : D := .lst (l.map .bool)
theorem idx_bl {l : List Bool} {i : Nat} (h : i < l.length) : gev none .idx [bl l, .int i] = some (.bool l[i]) := by
  have h2 : (i : Int) < ((l.map D.bool).length : Int) := by simp; omega
  simp only [gev, gok, if_true, Prim.ev, bl]
  rw [if_pos ⟨by omega, h2⟩]
  simp [h]
theorem set_bl {l : List Bool} {i : Nat} {v : Bool} (h : i < l.length) : gev none .set [bl l, .int i, .bool v] = some (bl (l.set i v)) := by
  have h2 : (i : Int) < ((l.map D.bool).length : Int) := by simp; omega
  simp only [gev, gok, if_true, Prim.ev, bl]
  rw [if_pos ⟨by omega, h2⟩]
  simp [List.map_set]
theorem rep_bl {n : Nat} (h : n ≤ 1048576) : gev none .rep [.int n, .bool false] = some (bl (List.replicate n false)) := by
  simp only [gev, gok, if_true, Prim.ev, bl]
  rw [if_pos (by omega)]
  simp
theorem sub_sl {l : List Sp} {n : Nat} (h : n ≤ l.length) : gev none .sub [sl l, .int 0, .int n] = some (sl (l.take n)) := by
  simp only [gev, gok, if_true, Prim.ev, sl]
  rw [if_pos (by simp; omega)]
  simp [List.map_take]

/-! ### The first colour that is free -/
def taken (ss : List Sp) (cs : List Int) (i n c : Nat) : Bool := (List.range n).any fun k => meetS (ss.getD i ⟨0, 0, 0, 0⟩) (ss.getD k ⟨0, 0, 0, 0⟩) && (cs.getD k 0 == (c : Int))
open Classical in
noncomputable def colr (p : Nat → Bool) : Nat := if h : ∃ m, p m = false ∧ ∀ c < m, p c = true then h.choose else 0
theorem colr_ok {p : Nat → Bool} {n : Nat} (h : p n = false) : p (colr p) = false ∧ (∀ c < colr p, p c = true) ∧ colr p ≤ n := by
  have hx : ∃ m, p m = false ∧ ∀ c < m, p c = true := by
    have key : ∀ k c : Nat, c + k = n → (∀ d < c, p d = true) → ∃ m, p m = false ∧ ∀ c < m, p c = true := by
      intro k
      induction k with
      | zero =>
        intro c hc hd
        have : c = n := by omega
        subst this
        exact ⟨c, h, hd⟩
      | succ k ih =>
        intro c hc hd
        cases hp : p c
        · exact ⟨c, hp, hd⟩
        · refine ih (c + 1) (by omega) fun d hlt => ?_
          rcases Nat.lt_or_ge d c with h' | h'
          · exact hd d h'
          · have : d = c := by omega
            subst this
            exact hp
    exact key n 0 (by omega) (fun d hd => by omega)
  have hs := hx.choose_spec
  have e : colr p = hx.choose := by
    unfold colr
    rw [dif_pos hx]
  rw [e]
  refine ⟨hs.1, hs.2, ?_⟩
  rcases Nat.lt_or_ge n hx.choose with h' | h'
  · have := hs.2 n h'
    rw [h] at this
    cases this
  · exact h'
noncomputable def outN (ss : List Sp) : Nat → List Int
  | 0 => []
  | n + 1 => outN ss n ++ [(colr (taken ss (outN ss n) n n) : Int)]
theorem outN_len (ss : List Sp) : ∀ n, (outN ss n).length = n
  | 0 => rfl
  | n + 1 => by simp [outN, outN_len ss n]
theorem taken_top {ss : List Sp} {cs : List Int} {i n : Nat} (h : ∀ k, k < n → cs.getD k 0 ≤ (k : Int)) : taken ss cs i n n = false := by
  unfold taken
  rw [List.any_eq_false]
  intro k hk
  have hk := List.mem_range.1 hk
  have := h k hk
  simp only [Bool.and_eq_true, beq_iff_eq, not_and]
  intro _ e
  omega
theorem outN_le (ss : List Sp) : ∀ n k, k < n → 0 ≤ (outN ss n).getD k 0 ∧ (outN ss n).getD k 0 ≤ (k : Int)
  | 0, k, h => by omega
  | n + 1, k, h => by
    have ih := outN_le ss n
    have hl := outN_len ss n
    simp only [outN]
    rcases Nat.lt_or_ge k n with h' | h'
    · rw [List.getD_eq_getElem?_getD, List.getElem?_append_left (by omega), ← List.getD_eq_getElem?_getD]
      exact ih k h'
    · have e : k = n := by omega
      subst e
      rw [List.getD_eq_getElem?_getD, List.getElem?_append_right (by omega), hl, Nat.sub_self]
      have := (colr_ok (taken_top (ss := ss) (i := k) (fun j hj => (ih j hj).2))).2.2
      simp only [List.getElem?_cons_zero, Option.getD_some]
      omega

/-! ### Putting a number into a list -/
def putN (l : List Int) (n : Int) : Nat → List Int × Bool
  | 0 => ([], false)
  | i + 1 => if !(putN l n i).2 && decide (l.getD i 0 ≥ n) then ((if l.getD i 0 > n then (putN l n i).1 ++ [n] else (putN l n i).1) ++ [l.getD i 0], true) else ((putN l n i).1 ++ [l.getD i 0], (putN l n i).2)
def putL (l : List Int) (n : Int) : List Int := if (putN l n l.length).2 then (putN l n l.length).1 else (putN l n l.length).1 ++ [n]
theorem putN_ok (l : List Int) (n : Int) : ∀ i, i ≤ l.length → (putN l n i).1.length ≤ i + (if (putN l n i).2 then 1 else 0) ∧ (∀ x, x ∈ (putN l n i).1 ↔ (x ∈ l.take i ∨ ((putN l n i).2 = true ∧ x = n)))
  | 0, _ => by simp [putN]
  | i + 1, h => by
    obtain ⟨h1, h2⟩ := putN_ok l n i (by omega)
    have hg : l.getD i 0 = l[i] := getD_lt (by omega)
    have ht : l.take (i + 1) = l.take i ++ [l[i]] := take_step (by omega)
    simp only [putN, hg]
    cases hd : (putN l n i).2
    · rw [hd] at h1 h2
      by_cases hge : l[i] ≥ n
      · rw [if_pos (by simpa using hge)]
        by_cases hgt : l[i] > n
        · rw [if_pos hgt]
          refine ⟨by simp at h1 ⊢; omega, fun x => ?_⟩
          rw [ht]
          simp only [List.mem_append, h2 x, List.mem_cons, List.not_mem_nil, or_false]
          constructor
          · rintro ((( h | ⟨h, _⟩) | h) | h)
            · exact .inl (.inl h)
            · cases h
            · exact .inr ⟨trivial, h⟩
            · exact .inl (.inr h)
          · rintro ((h | h) | ⟨_, h⟩)
            · exact .inl (.inl (.inl h))
            · exact .inr h
            · exact .inl (.inr h)
        · rw [if_neg hgt]
          have he : l[i] = n := by omega
          refine ⟨by simp at h1 ⊢; omega, fun x => ?_⟩
          rw [ht]
          simp only [List.mem_append, h2 x, List.mem_cons, List.not_mem_nil, or_false, he]
          constructor
          · rintro ((h | ⟨h, _⟩) | h)
            · exact .inl (.inl h)
            · cases h
            · exact .inl (.inr h)
          · rintro ((h | h) | ⟨_, h⟩)
            · exact .inl (.inl h)
            · exact .inr h
            · exact .inr h
      · rw [if_neg (by simpa using hge)]
        refine ⟨by simp at h1 ⊢; omega, fun x => ?_⟩
        rw [ht]
        simp only [List.mem_append, h2 x, List.mem_cons, List.not_mem_nil, or_false]
        constructor
        · rintro ((h | ⟨h, _⟩) | h)
          · exact .inl (.inl h)
          · cases h
          · exact .inl (.inr h)
        · rintro ((h | h) | ⟨h, _⟩)
          · exact .inl (.inl h)
          · exact .inr h
          · cases h
    · rw [hd] at h1 h2
      rw [if_neg (by simp)]
      refine ⟨by simp at h1 ⊢; omega, fun x => ?_⟩
      rw [ht]
      simp only [List.mem_append, h2 x, List.mem_cons, List.not_mem_nil, or_false, true_and]
      constructor
      · rintro ((h | h) | h)
        · exact .inl (.inl h)
        · exact .inr h
        · exact .inl (.inr h)
      · rintro ((h | h) | h)
        · exact .inl (.inl h)
        · exact .inr h
        · exact .inl (.inr h)
theorem putL_len (l : List Int) (n : Int) : (putL l n).length ≤ l.length + 1 := by
  have h := (putN_ok l n l.length (Nat.le_refl _)).1
  unfold putL
  cases hd : (putN l n l.length).2
  · rw [hd] at h
    rw [if_neg (by simp)]
    simp at h ⊢
    omega
  · rw [hd] at h
    rw [if_pos rfl]
    simpa using h
theorem putL_mem (l : List Int) (n x : Int) : x ∈ putL l n ↔ x ∈ l ∨ x = n := by
  have h := (putN_ok l n l.length (Nat.le_refl _)).2 x
  rw [List.take_length] at h
  unfold putL
  cases hd : (putN l n l.length).2
  · rw [hd] at h
    rw [if_neg (by simp), List.mem_append, h]
    simp
  · rw [hd] at h
    rw [if_pos rfl, h]
    simp
/-- The colours that are taken, as a list. -/
def tkL (ss : List Sp) (cs : List Int) (i : Nat) : Nat → List Int
  | 0 => []
  | k + 1 => if meetS (ss.getD i ⟨0, 0, 0, 0⟩) (ss.getD k ⟨0, 0, 0, 0⟩) then putL (tkL ss cs i k) (cs.getD k 0) else tkL ss cs i k
theorem tkL_len (ss : List Sp) (cs : List Int) (i : Nat) : ∀ k, (tkL ss cs i k).length ≤ k
  | 0 => by simp [tkL]
  | k + 1 => by
    have := tkL_len ss cs i k
    simp only [tkL]
    split
    · have := putL_len (tkL ss cs i k) (cs.getD k 0)
      omega
    · omega
theorem tkL_has (ss : List Sp) (cs : List Int) (i c : Nat) : ∀ k, (tkL ss cs i k).contains (c : Int) = taken ss cs i k c
  | 0 => by simp [tkL, taken]
  | k + 1 => by
    have ih := tkL_has ss cs i c k
    have e : taken ss cs i (k + 1) c = (taken ss cs i k c || (meetS (ss.getD i ⟨0, 0, 0, 0⟩) (ss.getD k ⟨0, 0, 0, 0⟩) && (cs.getD k 0 == (c : Int)))) := by
      unfold taken
      rw [List.range_succ, List.any_append]
      simp
    rw [e, ← ih]
    simp only [tkL]
    cases hm : meetS (ss.getD i ⟨0, 0, 0, 0⟩) (ss.getD k ⟨0, 0, 0, 0⟩)
    · simp
    · simp only [if_true, Bool.true_and]
      rw [Bool.eq_iff_iff]
      simp only [List.contains_iff_mem, Bool.or_eq_true, beq_iff_eq, putL_mem]
      constructor
      · rintro (h | h)
        · exact .inl h
        · exact .inr h.symm
      · rintro (h | h)
        · exact .inl h
        · exact .inr h.symm

noncomputable def F204 : List D → Option (List D)
  | [a, .int n] => (dI a).bind fun l => if l.length ≤ 1000 then some [il (putL l n)] else none
  | _ => none
noncomputable def F205 : List D → Option (List D)
  | [a, .int n] => (dI a).bind fun l => if l.length ≤ 1000 then some [.bool (l.contains n)] else none
  | _ => none
open Classical in
noncomputable def F203 (ds : List D) : Option (List D) := (dB ds).bind fun p => if p.2 = [] ∧ p.1.ss.length ≤ 200 then some [il (outN p.1.ss p.1.ss.length)] else none
noncomputable def F206 : List D → Option (List D) := F203
noncomputable def colP (B : Bd) : List D := if validB B = true then [il (outN B.ss B.ss.length), .bool true] else [il [], .bool false]
open Classical in
noncomputable def F207 (ds : List D) : Option (List D) := (dB ds).bind fun p => if p.2 = [] ∧ szB p.1 ≤ 1048576 then some (colP p.1) else none
theorem F203_m {B : Bd} (h : B.ss.length ≤ 200) : F203 (bd B) = some [il (outN B.ss B.ss.length)] := by
  simp only [F203, dB_bd0, Option.bind_some]
  exact if_pos ⟨trivial, h⟩
theorem F207_m {B : Bd} (h : szB B ≤ 1048576) : F207 (bd B) = some (colP B) := by
  simp only [F207, dB_bd0, Option.bind_some]
  exact if_pos ⟨trivial, h⟩
theorem F204_m {l : List Int} {n : Int} (h : l.length ≤ 1000) : F204 [il l, .int n] = some [il (putL l n)] := by
  simp only [F204, dI_il, Option.bind_some]
  exact if_pos h
theorem F205_m {l : List Int} {n : Int} (h : l.length ≤ 1000) : F205 [il l, .int n] = some [.bool (l.contains n)] := by
  simp only [F205, dI_il, Option.bind_some]
  exact if_pos h
theorem validB_200 {B : Bd} (h : validB B = true) : B.ss.length ≤ 200 := by
  unfold validB at h
  simp only [Bool.and_eq_true, decide_eq_true_eq] at h
  exact h.1.1.2

def T203 : T :=
(.op none .mklst [] <|
(.op none .len [(.v 2)] <|
(.join 3
  (.loop [(.v 9), (.c (.int 0))]
    (.op none (.icm .lss) [(.v 12), (.v 10)] <|
    (.ite (.v 13)
      (.op none .mklst [] <|
      (.op none .len [(.v 11)] <|
      (.join 3
        (.loop [(.v 14), (.c (.int 0))]
          (.op none (.icm .lss) [(.v 17), (.v 15)] <|
          (.ite (.v 18)
            (.op none .idx [(.v 2), (.v 12)] <|
            (.op none (.proj 0) [(.v 19)] <|
            (.op none (.proj 1) [(.v 19)] <|
            (.op none (.proj 2) [(.v 19)] <|
            (.op none (.proj 3) [(.v 19)] <|
            (.op none .idx [(.v 2), (.v 17)] <|
            (.op none (.proj 0) [(.v 24)] <|
            (.op none (.proj 1) [(.v 24)] <|
            (.op none (.proj 2) [(.v 24)] <|
            (.op none (.proj 3) [(.v 24)] <|
            (.call none 196 [(.v 20), (.v 21), (.v 22), (.v 23), (.v 25), (.v 26), (.v 27), (.v 28)] 1 <|
            (.join 1
              (.ite (.v 29)
                (.op none .idx [(.v 11), (.v 17)] <|
                (.op none .idx [(.v 11), (.v 17)] <|
                (.call none 204 [(.v 16), (.v 31)] 1 <|
                (.out 0 [(.v 32)]))))
                (.out 0 [(.v 16)]))
            (.op none (.iar .add .i64) [(.v 17), (.c (.int 1))] <|
            (.out 0 [(.v 30), (.v 31)]))))))))))))))
            (.out 1 [(.v 16), (.v 17), (.v 18)]))))
      (.join 3
        (.loop [(.c (.int 0))]
          (.call none 205 [(.v 16), (.v 19)] 1 <|
          (.ite (.v 20)
            (.op none (.iar .add .i64) [(.v 19), (.c (.int 1))] <|
            (.out 0 [(.v 21)]))
            (.out 1 [(.v 19), (.v 19), (.v 20)]))))
      (.op none .mklst [(.v 19)] <|
      (.op none .app [(.v 11), (.v 22)] <|
      (.op none (.iar .add .i64) [(.v 12), (.c (.int 1))] <|
      (.out 0 [(.v 23), (.v 24)]))))))))
      (.out 1 [(.v 11), (.v 12), (.v 13)]))))
(.out 0 [(.v 11)]))))
def S203L0 (G : Told) (e16 : List D) : List D → Option (Nat × List D) := fun e19 =>
            (gcall G none 205 [(e16.getD 0 .undef), (e19.getD 0 .undef)] 1).bind fun e20 =>
            tif (e20.getD 0 .undef) (
              (gev none (.iar .add .i64) [(e19.getD 0 .undef), (.int 1)]).bind fun x21 =>
              some (0, [x21])) (
              some (1, [(e19.getD 0 .undef), (e19.getD 0 .undef), (e20.getD 0 .undef)]))
def S203L1 (G : Told) (x2 : D) (e11 : List D) (x15 : D) : List D → Option (Nat × List D) := fun e16 =>
            (gev none (.icm .lss) [(e16.getD 1 .undef), x15]).bind fun x18 =>
            tif x18 (
              (gev none .idx [x2, (e11.getD 1 .undef)]).bind fun x19 =>
              (gev none (.proj 0) [x19]).bind fun x20 =>
              (gev none (.proj 1) [x19]).bind fun x21 =>
              (gev none (.proj 2) [x19]).bind fun x22 =>
              (gev none (.proj 3) [x19]).bind fun x23 =>
              (gev none .idx [x2, (e16.getD 1 .undef)]).bind fun x24 =>
              (gev none (.proj 0) [x24]).bind fun x25 =>
              (gev none (.proj 1) [x24]).bind fun x26 =>
              (gev none (.proj 2) [x24]).bind fun x27 =>
              (gev none (.proj 3) [x24]).bind fun x28 =>
              (gcall G none 196 [x20, x21, x22, x23, x25, x26, x27, x28] 1).bind fun e29 =>
              tjoin 1 (
                tif (e29.getD 0 .undef) (
                  (gev none .idx [(e11.getD 0 .undef), (e16.getD 1 .undef)]).bind fun _x30 =>
                  (gev none .idx [(e11.getD 0 .undef), (e16.getD 1 .undef)]).bind fun x31 =>
                  (gcall G none 204 [(e16.getD 0 .undef), x31] 1).bind fun e32 =>
                  some (0, [(e32.getD 0 .undef)])) (
                  some (0, [(e16.getD 0 .undef)]))) fun e30 =>
              (gev none (.iar .add .i64) [(e16.getD 1 .undef), (.int 1)]).bind fun x31 =>
              some (0, [(e30.getD 0 .undef), x31])) (
              some (1, [(e16.getD 0 .undef), (e16.getD 1 .undef), x18]))
def S203L2 (G : Told) (fuel : Nat) (x2 : D) (x10 : D) : List D → Option (Nat × List D) := fun e11 =>
      (gev none (.icm .lss) [(e11.getD 1 .undef), x10]).bind fun x13 =>
      tif x13 (
        (gev none .mklst []).bind fun x14 =>
        (gev none .len [(e11.getD 0 .undef)]).bind fun x15 =>
        tjoin 3 (
          iter (tbody 2 (S203L1 G x2 e11 x15)) fuel [x14, (.int 0)]) fun e16 =>
        tjoin 3 (
          iter (tbody 1 (S203L0 G e16)) fuel [(.int 0)]) fun e19 =>
        (gev none .mklst [(e19.getD 0 .undef)]).bind fun x22 =>
        (gev none .app [(e11.getD 0 .undef), x22]).bind fun x23 =>
        (gev none (.iar .add .i64) [(e11.getD 1 .undef), (.int 1)]).bind fun x24 =>
        some (0, [x23, x24])) (
        some (1, [(e11.getD 0 .undef), (e11.getD 1 .undef), x13]))
def S203 (G : Told) (fuel : Nat) (_x0 _x1 x2 _x3 _x4 _x5 _x6 _x7 _x8 : D) : Option (Nat × List D) :=
  (gev none .mklst []).bind fun x9 =>
  (gev none .len [x2]).bind fun x10 =>
  tjoin 3 (
    iter (tbody 2 (S203L2 G fuel x2 x10)) fuel [x9, (.int 0)]) fun e11 =>
  some (0, [(e11.getD 0 .undef)])
theorem eq203 {G : Told} {fuel : Nat} (x0 x1 x2 x3 x4 x5 x6 x7 x8 : D) : run G fuel T203 [x0, x1, x2, x3, x4, x5, x6, x7, x8] = S203 G fuel x0 x1 x2 x3 x4 x5 x6 x7 x8 := by
  rw [run_eq]; kernel_rfl

def T204 : T :=
(.op none .mklst [] <|
(.join 6
  (.loop [(.v 2), (.c (.bool false)), (.c (.int 0))]
    (.op none .len [(.v 0)] <|
    (.op none (.icm .lss) [(.v 5), (.v 6)] <|
    (.ite (.v 7)
      (.op none .bnot [(.v 4)] <|
      (.op (some ((.v 8), true)) .id [(.v 0)] <|
      (.op (some ((.v 8), true)) .id [(.v 5)] <|
      (.op (some ((.v 8), true)) .idx [(.v 9), (.v 10)] <|
      (.op (some ((.v 8), true)) .id [(.v 11)] <|
      (.op (some ((.v 8), true)) .id [(.v 1)] <|
      (.op (some ((.v 8), true)) (.icm .geq) [(.v 12), (.v 13)] <|
      (.op none .pick [(.v 8), (.v 14), (.c (.bool false))] <|
      (.join 2
        (.ite (.v 15)
          (.op none .idx [(.v 0), (.v 5)] <|
          (.op none (.icm .gtr) [(.v 16), (.v 1)] <|
          (.join 1
            (.ite (.v 17)
              (.op none .mklst [(.v 1)] <|
              (.op none .app [(.v 3), (.v 18)] <|
              (.out 0 [(.v 19)])))
              (.out 0 [(.v 3)]))
          (.out 0 [(.v 18), (.c (.bool true))]))))
          (.out 0 [(.v 3), (.v 4)]))
      (.op none .idx [(.v 0), (.v 5)] <|
      (.op none .mklst [(.v 18)] <|
      (.op none .app [(.v 16), (.v 19)] <|
      (.op none (.iar .add .i64) [(.v 5), (.c (.int 1))] <|
      (.out 0 [(.v 20), (.v 17), (.v 21)]))))))))))))))
      (.out 1 [(.v 3), (.v 4), (.v 5), (.v 5), (.v 6), (.v 7)])))))
(.op none .bnot [(.v 4)] <|
(.join 1
  (.ite (.v 9)
    (.op none .mklst [(.v 1)] <|
    (.op none .app [(.v 3), (.v 10)] <|
    (.out 0 [(.v 11)])))
    (.out 0 [(.v 3)]))
(.out 0 [(.v 10)])))))
def S204L0 (_G : Told) (x0 : D) (x1 : D) : List D → Option (Nat × List D) := fun e3 =>
      (gev none .len [x0]).bind fun x6 =>
      (gev none (.icm .lss) [(e3.getD 2 .undef), x6]).bind fun x7 =>
      tif x7 (
        (gev none .bnot [(e3.getD 1 .undef)]).bind fun x8 =>
        (gev (some (x8, true)) .id [x0]).bind fun x9 =>
        (gev (some (x8, true)) .id [(e3.getD 2 .undef)]).bind fun x10 =>
        (gev (some (x8, true)) .idx [x9, x10]).bind fun x11 =>
        (gev (some (x8, true)) .id [x11]).bind fun x12 =>
        (gev (some (x8, true)) .id [x1]).bind fun x13 =>
        (gev (some (x8, true)) (.icm .geq) [x12, x13]).bind fun x14 =>
        (gev none .pick [x8, x14, (.bool false)]).bind fun x15 =>
        tjoin 2 (
          tif x15 (
            (gev none .idx [x0, (e3.getD 2 .undef)]).bind fun x16 =>
            (gev none (.icm .gtr) [x16, x1]).bind fun x17 =>
            tjoin 1 (
              tif x17 (
                (gev none .mklst [x1]).bind fun x18 =>
                (gev none .app [(e3.getD 0 .undef), x18]).bind fun x19 =>
                some (0, [x19])) (
                some (0, [(e3.getD 0 .undef)]))) fun e18 =>
            some (0, [(e18.getD 0 .undef), (.bool true)])) (
            some (0, [(e3.getD 0 .undef), (e3.getD 1 .undef)]))) fun e16 =>
        (gev none .idx [x0, (e3.getD 2 .undef)]).bind fun x18 =>
        (gev none .mklst [x18]).bind fun x19 =>
        (gev none .app [(e16.getD 0 .undef), x19]).bind fun x20 =>
        (gev none (.iar .add .i64) [(e3.getD 2 .undef), (.int 1)]).bind fun x21 =>
        some (0, [x20, (e16.getD 1 .undef), x21])) (
        some (1, [(e3.getD 0 .undef), (e3.getD 1 .undef), (e3.getD 2 .undef), (e3.getD 2 .undef), x6, x7]))
def S204 (G : Told) (fuel : Nat) (x0 x1 : D) : Option (Nat × List D) :=
  (gev none .mklst []).bind fun x2 =>
  tjoin 6 (
    iter (tbody 3 (S204L0 G x0 x1)) fuel [x2, (.bool false), (.int 0)]) fun e3 =>
  (gev none .bnot [(e3.getD 1 .undef)]).bind fun x9 =>
  tjoin 1 (
    tif x9 (
      (gev none .mklst [x1]).bind fun x10 =>
      (gev none .app [(e3.getD 0 .undef), x10]).bind fun x11 =>
      some (0, [x11])) (
      some (0, [(e3.getD 0 .undef)]))) fun e10 =>
  some (0, [(e10.getD 0 .undef)])
theorem eq204 {G : Told} {fuel : Nat} (x0 x1 : D) : run G fuel T204 [x0, x1] = S204 G fuel x0 x1 := by
  rw [run_eq]; kernel_rfl

def T205 : T :=
(.join 4
  (.loop [(.c (.int 0))]
    (.op none .len [(.v 0)] <|
    (.op none (.icm .lss) [(.v 2), (.v 3)] <|
    (.ite (.v 4)
      (.op none .idx [(.v 0), (.v 2)] <|
      (.op none (.icm .eql) [(.v 5), (.v 1)] <|
      (.ite (.v 6)
        (.out 2 [(.c (.bool true))])
        (.op none (.iar .add .i64) [(.v 2), (.c (.int 1))] <|
        (.out 0 [(.v 7)])))))
      (.out 1 [(.v 2), (.v 2), (.v 3), (.v 4)])))))
(.out 0 [(.c (.bool false))]))
def S205L0 (_G : Told) (x0 : D) (x1 : D) : List D → Option (Nat × List D) := fun e2 =>
      (gev none .len [x0]).bind fun x3 =>
      (gev none (.icm .lss) [(e2.getD 0 .undef), x3]).bind fun x4 =>
      tif x4 (
        (gev none .idx [x0, (e2.getD 0 .undef)]).bind fun x5 =>
        (gev none (.icm .eql) [x5, x1]).bind fun x6 =>
        tif x6 (
          some (2, [(.bool true)])) (
          (gev none (.iar .add .i64) [(e2.getD 0 .undef), (.int 1)]).bind fun x7 =>
          some (0, [x7]))) (
        some (1, [(e2.getD 0 .undef), (e2.getD 0 .undef), x3, x4]))
def S205 (G : Told) (fuel : Nat) (x0 x1 : D) : Option (Nat × List D) :=
  tjoin 4 (
    iter (tbody 1 (S205L0 G x0 x1)) fuel [(.int 0)]) fun _e2 =>
  some (0, [(.bool false)])
theorem eq205 {G : Told} {fuel : Nat} (x0 x1 : D) : run G fuel T205 [x0, x1] = S205 G fuel x0 x1 := by
  rw [run_eq]; kernel_rfl

def T206 : T :=
(.op none .mklst [] <|
(.op none .len [(.v 2)] <|
(.join 3
  (.loop [(.v 9), (.c (.int 0))]
    (.op none (.icm .lss) [(.v 12), (.v 10)] <|
    (.ite (.v 13)
      (.op none .idx [(.v 2), (.v 12)] <|
      (.op none (.proj 0) [(.v 14)] <|
      (.op none (.proj 1) [(.v 14)] <|
      (.op none (.proj 2) [(.v 14)] <|
      (.op none (.proj 3) [(.v 14)] <|
      (.op none (.iar .add .i64) [(.v 12), (.c (.int 1))] <|
      (.op none .rep [(.v 19), (.c (.bool false))] <|
      (.op none .sub [(.v 2), (.c (.int 0)), (.v 12)] <|
      (.op none .len [(.v 21)] <|
      (.join 3
        (.loop [(.v 20), (.c (.int 0))]
          (.op none (.icm .lss) [(.v 24), (.v 22)] <|
          (.ite (.v 25)
            (.op none .idx [(.v 21), (.v 24)] <|
            (.op none (.proj 0) [(.v 26)] <|
            (.op none (.proj 1) [(.v 26)] <|
            (.op none (.proj 2) [(.v 26)] <|
            (.op none (.proj 3) [(.v 26)] <|
            (.call none 196 [(.v 15), (.v 16), (.v 17), (.v 18), (.v 27), (.v 28), (.v 29), (.v 30)] 1 <|
            (.join 1
              (.ite (.v 31)
                (.op none .idx [(.v 11), (.v 24)] <|
                (.op none .idx [(.v 11), (.v 24)] <|
                (.op none .idx [(.v 23), (.v 33)] <|
                (.op none .set [(.v 23), (.v 33), (.c (.bool true))] <|
                (.out 0 [(.v 35)])))))
                (.out 0 [(.v 23)]))
            (.op none (.iar .add .i64) [(.v 24), (.c (.int 1))] <|
            (.out 0 [(.v 32), (.v 33)])))))))))
            (.out 1 [(.v 23), (.v 24), (.v 25)]))))
      (.join 3
        (.loop [(.c (.int 0))]
          (.op none .idx [(.v 23), (.v 26)] <|
          (.op none .idx [(.v 23), (.v 26)] <|
          (.ite (.v 28)
            (.op none (.iar .add .i64) [(.v 26), (.c (.int 1))] <|
            (.out 0 [(.v 29)]))
            (.out 1 [(.v 26), (.v 26), (.v 28)])))))
      (.op none .mklst [(.v 26)] <|
      (.op none .app [(.v 11), (.v 29)] <|
      (.op none (.iar .add .i64) [(.v 12), (.c (.int 1))] <|
      (.out 0 [(.v 30), (.v 31)])))))))))))))))
      (.out 1 [(.v 11), (.v 12), (.v 13)]))))
(.out 0 [(.v 11)]))))
def S206L0 (_G : Told) (e23 : List D) : List D → Option (Nat × List D) := fun e26 =>
            (gev none .idx [(e23.getD 0 .undef), (e26.getD 0 .undef)]).bind fun _x27 =>
            (gev none .idx [(e23.getD 0 .undef), (e26.getD 0 .undef)]).bind fun x28 =>
            tif x28 (
              (gev none (.iar .add .i64) [(e26.getD 0 .undef), (.int 1)]).bind fun x29 =>
              some (0, [x29])) (
              some (1, [(e26.getD 0 .undef), (e26.getD 0 .undef), x28]))
def S206L1 (G : Told) (e11 : List D) (x15 : D) (x16 : D) (x17 : D) (x18 : D) (x21 : D) (x22 : D) : List D → Option (Nat × List D) := fun e23 =>
            (gev none (.icm .lss) [(e23.getD 1 .undef), x22]).bind fun x25 =>
            tif x25 (
              (gev none .idx [x21, (e23.getD 1 .undef)]).bind fun x26 =>
              (gev none (.proj 0) [x26]).bind fun x27 =>
              (gev none (.proj 1) [x26]).bind fun x28 =>
              (gev none (.proj 2) [x26]).bind fun x29 =>
              (gev none (.proj 3) [x26]).bind fun x30 =>
              (gcall G none 196 [x15, x16, x17, x18, x27, x28, x29, x30] 1).bind fun e31 =>
              tjoin 1 (
                tif (e31.getD 0 .undef) (
                  (gev none .idx [(e11.getD 0 .undef), (e23.getD 1 .undef)]).bind fun _x32 =>
                  (gev none .idx [(e11.getD 0 .undef), (e23.getD 1 .undef)]).bind fun x33 =>
                  (gev none .idx [(e23.getD 0 .undef), x33]).bind fun _x34 =>
                  (gev none .set [(e23.getD 0 .undef), x33, (.bool true)]).bind fun x35 =>
                  some (0, [x35])) (
                  some (0, [(e23.getD 0 .undef)]))) fun e32 =>
              (gev none (.iar .add .i64) [(e23.getD 1 .undef), (.int 1)]).bind fun x33 =>
              some (0, [(e32.getD 0 .undef), x33])) (
              some (1, [(e23.getD 0 .undef), (e23.getD 1 .undef), x25]))
def S206L2 (G : Told) (fuel : Nat) (x2 : D) (x10 : D) : List D → Option (Nat × List D) := fun e11 =>
      (gev none (.icm .lss) [(e11.getD 1 .undef), x10]).bind fun x13 =>
      tif x13 (
        (gev none .idx [x2, (e11.getD 1 .undef)]).bind fun x14 =>
        (gev none (.proj 0) [x14]).bind fun x15 =>
        (gev none (.proj 1) [x14]).bind fun x16 =>
        (gev none (.proj 2) [x14]).bind fun x17 =>
        (gev none (.proj 3) [x14]).bind fun x18 =>
        (gev none (.iar .add .i64) [(e11.getD 1 .undef), (.int 1)]).bind fun x19 =>
        (gev none .rep [x19, (.bool false)]).bind fun x20 =>
        (gev none .sub [x2, (.int 0), (e11.getD 1 .undef)]).bind fun x21 =>
        (gev none .len [x21]).bind fun x22 =>
        tjoin 3 (
          iter (tbody 2 (S206L1 G e11 x15 x16 x17 x18 x21 x22)) fuel [x20, (.int 0)]) fun e23 =>
        tjoin 3 (
          iter (tbody 1 (S206L0 G e23)) fuel [(.int 0)]) fun e26 =>
        (gev none .mklst [(e26.getD 0 .undef)]).bind fun x29 =>
        (gev none .app [(e11.getD 0 .undef), x29]).bind fun x30 =>
        (gev none (.iar .add .i64) [(e11.getD 1 .undef), (.int 1)]).bind fun x31 =>
        some (0, [x30, x31])) (
        some (1, [(e11.getD 0 .undef), (e11.getD 1 .undef), x13]))
def S206 (G : Told) (fuel : Nat) (_x0 _x1 x2 _x3 _x4 _x5 _x6 _x7 _x8 : D) : Option (Nat × List D) :=
  (gev none .mklst []).bind fun x9 =>
  (gev none .len [x2]).bind fun x10 =>
  tjoin 3 (
    iter (tbody 2 (S206L2 G fuel x2 x10)) fuel [x9, (.int 0)]) fun e11 =>
  some (0, [(e11.getD 0 .undef)])
theorem eq206 {G : Told} {fuel : Nat} (x0 x1 x2 x3 x4 x5 x6 x7 x8 : D) : run G fuel T206 [x0, x1, x2, x3, x4, x5, x6, x7, x8] = S206 G fuel x0 x1 x2 x3 x4 x5 x6 x7 x8 := by
  rw [run_eq]; kernel_rfl

def T207 : T :=
(.call none 195 [(.v 0), (.v 1), (.v 2), (.v 3), (.v 4), (.v 5), (.v 6), (.v 7), (.v 8)] 1 <|
(.op none .bnot [(.v 9)] <|
(.ite (.v 10)
  (.out 0 [(.c (.lst [])), (.c (.bool false))])
  (.call none 206 [(.v 0), (.v 1), (.v 2), (.v 3), (.v 4), (.v 5), (.v 6), (.v 7), (.v 8)] 1 <|
  (.out 0 [(.v 11), (.c (.bool true))])))))
def S207 (G : Told) (_fuel : Nat) (x0 x1 x2 x3 x4 x5 x6 x7 x8 : D) : Option (Nat × List D) :=
  (gcall G none 195 [x0, x1, x2, x3, x4, x5, x6, x7, x8] 1).bind fun e9 =>
  (gev none .bnot [(e9.getD 0 .undef)]).bind fun x10 =>
  tif x10 (
    some (0, [(.lst []), (.bool false)])) (
    (gcall G none 206 [x0, x1, x2, x3, x4, x5, x6, x7, x8] 1).bind fun e11 =>
    some (0, [(e11.getD 0 .undef), (.bool true)]))
theorem eq207 {G : Told} {fuel : Nat} (x0 x1 x2 x3 x4 x5 x6 x7 x8 : D) : run G fuel T207 [x0, x1, x2, x3, x4, x5, x6, x7, x8] = S207 G fuel x0 x1 x2 x3 x4 x5 x6 x7 x8 := by
  rw [run_eq]; kernel_rfl

attribute [local irreducible] tif tjoin IntKind.wrap feq fadd fmul fsub fdiv fgt fge flt fneg i2f sameP wide eqV vl il tl sl fl totL meetS rangeP validB bl putL taken colr outN szM szP marksV marksT inr triP validP rootP

set_option maxHeartbeats 4000000 in
theorem run205 {G : Told} : ∀ ds rs, F205 ds = some rs → ∃ fuel, run G fuel T205 ds = some (0, rs) := by
  intro ds rs h
  unfold F205 at h
  split at h
  case h_2 => cases h
  rename_i a n
  obtain ⟨l, ha, h⟩ := Option.bind_eq_some_iff.1 h
  rw [dI_inv ha]
  split at h
  case isFalse => cases h
  rename_i hc
  simp only [Option.some.injEq] at h
  subst h
  have hn := len_il (l := l)
  refine ⟨l.length + 1, ?_⟩
  rw [eq205]
  unfold S205
  have hin : ∀ i, (hi : i < l.length) → tbody 1 (S205L0 G (il l) (.int n)) [.int (i : Int)] = if l[i] == n then some (2, [.bool true]) else some (0, [.int ((i + 1 : Nat) : Int)]) := by
    intro i hi
    refine tb rfl ?_
    have h0 : decide ((i : Int) < (l.length : Int)) = true := by simpa using hi
    have hx := idx_il hi
    have ha := add1n (i := i) (by omega)
    unfold S205L0
    cases he : l[i] == n
    · rw [if_neg (by simp)]
      repeat' first
        | with_reducible refine st_ift ?_
        | with_reducible refine st_iff ?_
        | ((with_reducible apply st_ift2); exact rfl)
        | ((with_reducible apply st_iff2); exact rfl)
        | ((with_reducible apply st_some); exact hn)
        | ((with_reducible apply st_some); exact hx)
        | ((with_reducible apply st_some); exact ha)
        | ((with_reducible apply st_callt); assumption; exact rfl; exact rfl; assumption)
        | ((with_reducible apply st_callf); assumption; exact rfl; exact rfl; assumption)
        | ((with_reducible apply st_call); assumption; exact rfl; exact rfl; exact rfl)
        | ((with_reducible apply st_wide); exact rfl; exact rfl)
        | ((with_reducible apply st_skip); exact rfl)
        | ((with_reducible apply st_t); exact rfl; exact rfl)
        | ((with_reducible apply st_f); exact rfl; exact rfl)
        | ((with_reducible apply st_t); exact rfl; assumption)
        | ((with_reducible apply st_f); exact rfl; assumption)
        | ((with_reducible apply st_some); exact rfl)
        | exact rfl
    · rw [if_pos rfl]
      repeat' first
        | with_reducible refine st_ift ?_
        | with_reducible refine st_iff ?_
        | ((with_reducible apply st_ift2); exact rfl)
        | ((with_reducible apply st_iff2); exact rfl)
        | ((with_reducible apply st_some); exact hn)
        | ((with_reducible apply st_some); exact hx)
        | ((with_reducible apply st_some); exact ha)
        | ((with_reducible apply st_callt); assumption; exact rfl; exact rfl; assumption)
        | ((with_reducible apply st_callf); assumption; exact rfl; exact rfl; assumption)
        | ((with_reducible apply st_call); assumption; exact rfl; exact rfl; exact rfl)
        | ((with_reducible apply st_wide); exact rfl; exact rfl)
        | ((with_reducible apply st_skip); exact rfl)
        | ((with_reducible apply st_t); exact rfl; exact rfl)
        | ((with_reducible apply st_f); exact rfl; exact rfl)
        | ((with_reducible apply st_t); exact rfl; assumption)
        | ((with_reducible apply st_f); exact rfl; assumption)
        | ((with_reducible apply st_some); exact rfl)
        | exact rfl
  cases hcn : l.contains n
  · have hloop : iter (tbody 1 (S205L0 G (il l) (.int n))) (l.length + 1) [.int 0] = some (0, [.int (l.length : Int), .int (l.length : Int), .int (l.length : Int), .bool false]) := by
      refine iter_upto (body := tbody 1 (S205L0 G (il l) (.int n))) (n := l.length) (l := 0) (fun i => [.int (i : Int)]) (fun i hi => ?_) ?_
      · rw [hin i hi, if_neg]
        intro he
        have hm : n ∈ l := by
          have := beq_iff_eq.1 he
          rw [← this]
          exact List.getElem_mem hi
        rw [← List.contains_iff_mem, hcn] at hm
        cases hm
      · refine tb rfl ?_
        have h0 : decide ((l.length : Int) < (l.length : Int)) = false := by simp
        unfold S205L0
        repeat' first
          | with_reducible refine st_ift ?_
          | with_reducible refine st_iff ?_
          | ((with_reducible apply st_ift2); exact rfl)
          | ((with_reducible apply st_iff2); exact rfl)
          | ((with_reducible apply st_some); exact hn)
          | ((with_reducible apply st_callt); assumption; exact rfl; exact rfl; assumption)
          | ((with_reducible apply st_callf); assumption; exact rfl; exact rfl; assumption)
          | ((with_reducible apply st_call); assumption; exact rfl; exact rfl; exact rfl)
          | ((with_reducible apply st_wide); exact rfl; exact rfl)
          | ((with_reducible apply st_skip); exact rfl)
          | ((with_reducible apply st_t); exact rfl; exact rfl)
          | ((with_reducible apply st_f); exact rfl; exact rfl)
          | ((with_reducible apply st_t); exact rfl; assumption)
          | ((with_reducible apply st_f); exact rfl; assumption)
          | ((with_reducible apply st_some); exact rfl)
          | exact rfl
    repeat' first
      | with_reducible refine st_ift ?_
      | with_reducible refine st_iff ?_
      | ((with_reducible apply st_ift2); exact rfl)
      | ((with_reducible apply st_iff2); exact rfl)
      | ((with_reducible apply st_join); exact hloop; exact rfl)
      | ((with_reducible apply st_callt); assumption; exact rfl; exact rfl; assumption)
      | ((with_reducible apply st_callf); assumption; exact rfl; exact rfl; assumption)
      | ((with_reducible apply st_call); assumption; exact rfl; exact rfl; exact rfl)
      | ((with_reducible apply st_wide); exact rfl; exact rfl)
      | ((with_reducible apply st_skip); exact rfl)
      | ((with_reducible apply st_t); exact rfl; exact rfl)
      | ((with_reducible apply st_f); exact rfl; exact rfl)
      | ((with_reducible apply st_t); exact rfl; assumption)
      | ((with_reducible apply st_f); exact rfl; assumption)
      | ((with_reducible apply st_some); exact rfl)
      | exact rfl
  · have hm : n ∈ l := by rw [← List.contains_iff_mem]; exact hcn
    obtain ⟨i, hi, he⟩ := List.getElem_of_mem hm
    have hloop : iter (tbody 1 (S205L0 G (il l) (.int n))) (l.length + 1) [.int 0] = some (1, [.bool true]) := by
      refine iter_bad (body := tbody 1 (S205L0 G (il l) (.int n))) (n := l.length) (l := 1) (fun i => [.int (i : Int)]) (fun i => ¬ l.getD i 0 = n) (by omega) (fun i hi hg => ?_) (fun i hi hg => ?_) ⟨i, hi, by rw [getD_lt hi]; simpa using he⟩
      · rw [getD_lt hi] at hg
        rw [hin i hi, if_neg (by simpa using hg)]
      · rw [getD_lt hi] at hg
        rw [hin i hi, if_pos (by simpa using hg)]
    repeat' first
      | with_reducible refine st_ift ?_
      | with_reducible refine st_iff ?_
      | ((with_reducible apply st_ift2); exact rfl)
      | ((with_reducible apply st_iff2); exact rfl)
      | ((with_reducible apply st_out); exact hloop)
      | ((with_reducible apply st_callt); assumption; exact rfl; exact rfl; assumption)
      | ((with_reducible apply st_callf); assumption; exact rfl; exact rfl; assumption)
      | ((with_reducible apply st_call); assumption; exact rfl; exact rfl; exact rfl)
      | ((with_reducible apply st_wide); exact rfl; exact rfl)
      | ((with_reducible apply st_skip); exact rfl)
      | ((with_reducible apply st_t); exact rfl; exact rfl)
      | ((with_reducible apply st_f); exact rfl; exact rfl)
      | ((with_reducible apply st_t); exact rfl; assumption)
      | ((with_reducible apply st_f); exact rfl; assumption)
      | ((with_reducible apply st_some); exact rfl)
      | exact rfl
set_option maxHeartbeats 4000000 in
theorem run204 {G : Told} : ∀ ds rs, F204 ds = some rs → ∃ fuel, run G fuel T204 ds = some (0, rs) := by
  intro ds rs h
  unfold F204 at h
  split at h
  case h_2 => cases h
  rename_i a n
  obtain ⟨l, ha, h⟩ := Option.bind_eq_some_iff.1 h
  rw [dI_inv ha]
  split at h
  case isFalse => cases h
  rename_i hc
  simp only [Option.some.injEq] at h
  subst h
  have hn := len_il (l := l)
  refine ⟨l.length + 1, ?_⟩
  rw [eq204]
  unfold S204
  have hq1 : (.lst [.int n] : D) = il [n] := by unfold il; rfl
  have hloop : iter (tbody 3 (S204L0 G (il l) (.int n))) (l.length + 1) [.lst [], .bool false, .int 0] = some (0, [il (putN l n l.length).1, .bool (putN l n l.length).2, .int (l.length : Int), .int (l.length : Int), .int (l.length : Int), .bool false]) := by
    have h1 := iter_upto (body := tbody 3 (S204L0 G (il l) (.int n))) (n := l.length) (l := 0) (ds := [il (putN l n l.length).1, .bool (putN l n l.length).2, .int (l.length : Int), .int (l.length : Int), .int (l.length : Int), .bool false])
      (fun i => [il (putN l n i).1, .bool (putN l n i).2, .int (i : Int)]) ?_ ?_
    · simpa [putN, il_nil] using h1
    · intro i hi
      refine tb rfl ?_
      have h0 : decide ((i : Int) < (l.length : Int)) = true := by simpa using hi
      have hx := idx_il hi
      have ha := add1n (i := i) (by omega)
      obtain ⟨hlen, _⟩ := putN_ok l n i (by omega)
      have hq2 : (.lst [.int l[i]] : D) = il [l[i]] := by unfold il; rfl
      simp only [putN, getD_lt hi]
      generalize putN l n i = p at hlen ⊢
      obtain ⟨o, d⟩ := p
      have ho : o.length ≤ 1001 := by
        dsimp only at hlen
        split at hlen <;> omega
      have hp1 := app_il (l := o) (m := [n]) (by simp; omega)
      have hp2 := app_il (l := o) (m := [l[i]]) (by simp; omega)
      have hp3 := app_il (l := o ++ [n]) (m := [l[i]]) (by simp; omega)
      rw [← hq1] at hp1
      rw [← hq2] at hp2 hp3
      dsimp only
      cases d
      case true =>
        rw [if_neg (by simp)]
        unfold S204L0
        repeat' first
          | with_reducible refine st_ift ?_
          | with_reducible refine st_iff ?_
          | ((with_reducible apply st_ift2); exact rfl)
          | ((with_reducible apply st_iff2); exact rfl)
          | (with_reducible refine st_join (ds := [il o, .bool true]) ?_ ?_ ?_)
          | ((with_reducible apply st_some); exact hn)
          | ((with_reducible apply st_some); exact hx)
          | ((with_reducible apply st_some); exact ha)
          | ((with_reducible apply st_some); exact hp1)
          | ((with_reducible apply st_some); exact hp2)
          | ((with_reducible apply st_some); exact hp3)
          | ((with_reducible apply st_callt); assumption; exact rfl; exact rfl; assumption)
          | ((with_reducible apply st_callf); assumption; exact rfl; exact rfl; assumption)
          | ((with_reducible apply st_call); assumption; exact rfl; exact rfl; exact rfl)
          | ((with_reducible apply st_wide); exact rfl; exact rfl)
          | ((with_reducible apply st_skip); exact rfl)
          | ((with_reducible apply st_t); exact rfl; exact rfl)
          | ((with_reducible apply st_f); exact rfl; exact rfl)
          | ((with_reducible apply st_t); exact rfl; assumption)
          | ((with_reducible apply st_f); exact rfl; assumption)
          | ((with_reducible apply st_some); exact rfl)
          | exact rfl
      by_cases hge : l[i] ≥ n
      case neg =>
        have hd : decide (l[i] ≥ n) = false := by simpa using hge
        rw [if_neg (by simpa using hge)]
        unfold S204L0
        repeat' first
          | with_reducible refine st_ift ?_
          | with_reducible refine st_iff ?_
          | ((with_reducible apply st_ift2); exact rfl)
          | ((with_reducible apply st_iff2); exact rfl)
          | (with_reducible refine st_join (ds := [il o, .bool false]) ?_ ?_ ?_)
          | ((with_reducible apply st_some); exact hn)
          | ((with_reducible apply st_some); exact hx)
          | ((with_reducible apply st_some); exact ha)
          | ((with_reducible apply st_some); exact hp1)
          | ((with_reducible apply st_some); exact hp2)
          | ((with_reducible apply st_some); exact hp3)
          | ((with_reducible apply st_callt); assumption; exact rfl; exact rfl; assumption)
          | ((with_reducible apply st_callf); assumption; exact rfl; exact rfl; assumption)
          | ((with_reducible apply st_call); assumption; exact rfl; exact rfl; exact rfl)
          | ((with_reducible apply st_wide); exact rfl; exact rfl)
          | ((with_reducible apply st_skip); exact rfl)
          | ((with_reducible apply st_t); exact rfl; exact rfl)
          | ((with_reducible apply st_f); exact rfl; exact rfl)
          | ((with_reducible apply st_t); exact rfl; assumption)
          | ((with_reducible apply st_f); exact rfl; assumption)
          | ((with_reducible apply st_some); exact rfl)
          | exact rfl
      have hd : decide (l[i] ≥ n) = true := by simpa using hge
      rw [if_pos (by simpa using hge)]
      by_cases hgt : l[i] > n
      · have hd2 : decide (l[i] > n) = true := by simpa using hgt
        rw [if_pos hgt]
        unfold S204L0
        repeat' first
          | with_reducible refine st_ift ?_
          | with_reducible refine st_iff ?_
          | ((with_reducible apply st_ift2); exact rfl)
          | ((with_reducible apply st_iff2); exact rfl)
          | (with_reducible refine st_join (m := 2) (ds := [il (o ++ [n]), .bool true]) ?_ ?_ ?_)
          | (with_reducible refine st_join (m := 1) (ds := [il (o ++ [n])]) ?_ ?_ ?_)
          | ((with_reducible apply st_some); exact hn)
          | ((with_reducible apply st_some); exact hx)
          | ((with_reducible apply st_some); exact ha)
          | ((with_reducible apply st_some); exact hp1)
          | ((with_reducible apply st_some); exact hp2)
          | ((with_reducible apply st_some); exact hp3)
          | ((with_reducible apply st_callt); assumption; exact rfl; exact rfl; assumption)
          | ((with_reducible apply st_callf); assumption; exact rfl; exact rfl; assumption)
          | ((with_reducible apply st_call); assumption; exact rfl; exact rfl; exact rfl)
          | ((with_reducible apply st_wide); exact rfl; exact rfl)
          | ((with_reducible apply st_skip); exact rfl)
          | ((with_reducible apply st_t); exact rfl; exact rfl)
          | ((with_reducible apply st_f); exact rfl; exact rfl)
          | ((with_reducible apply st_t); exact rfl; assumption)
          | ((with_reducible apply st_f); exact rfl; assumption)
          | ((with_reducible apply st_some); exact rfl)
          | exact rfl
      · have hd2 : decide (l[i] > n) = false := by simpa using hgt
        rw [if_neg hgt]
        unfold S204L0
        repeat' first
          | with_reducible refine st_ift ?_
          | with_reducible refine st_iff ?_
          | ((with_reducible apply st_ift2); exact rfl)
          | ((with_reducible apply st_iff2); exact rfl)
          | (with_reducible refine st_join (m := 2) (ds := [il o, .bool true]) ?_ ?_ ?_)
          | (with_reducible refine st_join (m := 1) (ds := [il o]) ?_ ?_ ?_)
          | ((with_reducible apply st_some); exact hn)
          | ((with_reducible apply st_some); exact hx)
          | ((with_reducible apply st_some); exact ha)
          | ((with_reducible apply st_some); exact hp1)
          | ((with_reducible apply st_some); exact hp2)
          | ((with_reducible apply st_some); exact hp3)
          | ((with_reducible apply st_callt); assumption; exact rfl; exact rfl; assumption)
          | ((with_reducible apply st_callf); assumption; exact rfl; exact rfl; assumption)
          | ((with_reducible apply st_call); assumption; exact rfl; exact rfl; exact rfl)
          | ((with_reducible apply st_wide); exact rfl; exact rfl)
          | ((with_reducible apply st_skip); exact rfl)
          | ((with_reducible apply st_t); exact rfl; exact rfl)
          | ((with_reducible apply st_f); exact rfl; exact rfl)
          | ((with_reducible apply st_t); exact rfl; assumption)
          | ((with_reducible apply st_f); exact rfl; assumption)
          | ((with_reducible apply st_some); exact rfl)
          | exact rfl
    · refine tb rfl ?_
      have h0 : decide ((l.length : Int) < (l.length : Int)) = false := by simp
      unfold S204L0
      repeat' first
        | with_reducible refine st_ift ?_
        | with_reducible refine st_iff ?_
        | ((with_reducible apply st_ift2); exact rfl)
        | ((with_reducible apply st_iff2); exact rfl)
        | ((with_reducible apply st_some); exact hn)
        | ((with_reducible apply st_callt); assumption; exact rfl; exact rfl; assumption)
        | ((with_reducible apply st_callf); assumption; exact rfl; exact rfl; assumption)
        | ((with_reducible apply st_call); assumption; exact rfl; exact rfl; exact rfl)
        | ((with_reducible apply st_wide); exact rfl; exact rfl)
        | ((with_reducible apply st_skip); exact rfl)
        | ((with_reducible apply st_t); exact rfl; exact rfl)
        | ((with_reducible apply st_f); exact rfl; exact rfl)
        | ((with_reducible apply st_t); exact rfl; assumption)
        | ((with_reducible apply st_f); exact rfl; assumption)
        | ((with_reducible apply st_some); exact rfl)
        | exact rfl
  obtain ⟨hlen, _⟩ := putN_ok l n l.length (Nat.le_refl _)
  have e : putL l n = if (putN l n l.length).2 then (putN l n l.length).1 else (putN l n l.length).1 ++ [n] := by unfold putL; rfl
  rw [e]
  generalize putN l n l.length = p at hlen hloop ⊢
  obtain ⟨o, d⟩ := p
  have ho : o.length ≤ 1001 := by
    dsimp only at hlen
    split at hlen <;> omega
  have hp1 := app_il (l := o) (m := [n]) (by simp; omega)
  rw [← hq1] at hp1
  dsimp only at hloop ⊢
  cases d
  · rw [if_neg (by simp)]
    repeat' first
      | with_reducible refine st_ift ?_
      | with_reducible refine st_iff ?_
      | ((with_reducible apply st_ift2); exact rfl)
      | ((with_reducible apply st_iff2); exact rfl)
      | ((with_reducible apply st_join); exact hloop; exact rfl)
      | (with_reducible refine st_join (ds := [il (o ++ [n])]) ?_ ?_ ?_)
      | ((with_reducible apply st_some); exact hp1)
      | ((with_reducible apply st_callt); assumption; exact rfl; exact rfl; assumption)
      | ((with_reducible apply st_callf); assumption; exact rfl; exact rfl; assumption)
      | ((with_reducible apply st_call); assumption; exact rfl; exact rfl; exact rfl)
      | ((with_reducible apply st_wide); exact rfl; exact rfl)
      | ((with_reducible apply st_skip); exact rfl)
      | ((with_reducible apply st_t); exact rfl; exact rfl)
      | ((with_reducible apply st_f); exact rfl; exact rfl)
      | ((with_reducible apply st_t); exact rfl; assumption)
      | ((with_reducible apply st_f); exact rfl; assumption)
      | ((with_reducible apply st_some); exact rfl)
      | exact rfl
  · rw [if_pos rfl]
    repeat' first
      | with_reducible refine st_ift ?_
      | with_reducible refine st_iff ?_
      | ((with_reducible apply st_ift2); exact rfl)
      | ((with_reducible apply st_iff2); exact rfl)
      | ((with_reducible apply st_join); exact hloop; exact rfl)
      | (with_reducible refine st_join (ds := [il o]) ?_ ?_ ?_)
      | ((with_reducible apply st_some); exact hp1)
      | ((with_reducible apply st_callt); assumption; exact rfl; exact rfl; assumption)
      | ((with_reducible apply st_callf); assumption; exact rfl; exact rfl; assumption)
      | ((with_reducible apply st_call); assumption; exact rfl; exact rfl; exact rfl)
      | ((with_reducible apply st_wide); exact rfl; exact rfl)
      | ((with_reducible apply st_skip); exact rfl)
      | ((with_reducible apply st_t); exact rfl; exact rfl)
      | ((with_reducible apply st_f); exact rfl; exact rfl)
      | ((with_reducible apply st_t); exact rfl; assumption)
      | ((with_reducible apply st_f); exact rfl; assumption)
      | ((with_reducible apply st_some); exact rfl)
      | exact rfl
set_option maxHeartbeats 4000000 in
theorem run203 {G : Told} (g196 : G 196 = F196) (g204 : G 204 = F204) (g205 : G 205 = F205) : ∀ ds rs, F203 ds = some rs → ∃ fuel, run G fuel T203 ds = some (0, rs) := by
  intro ds rs h
  unfold F203 at h
  obtain ⟨⟨B, r⟩, hb, h⟩ := Option.bind_eq_some_iff.1 h
  rw [dB_inv hb]
  split at h
  case isFalse => cases h
  rename_i hc
  simp only [Option.some.injEq] at h
  subst h
  obtain ⟨hr, hc⟩ := hc
  dsimp only at hr hc
  subst hr
  obtain ⟨vs, ts, ss, fm, bn, ws, x, y, z⟩ := B
  have hc : ss.length ≤ 200 := hc
  show ∃ fuel, run G fuel T203 (bd ⟨vs, ts, ss, fm, bn, ws, x, y, z⟩ ++ []) = some (0, [il (outN ss ss.length)])
  simp only [bd, List.cons_append, List.nil_append]
  have hfu : ∃ fuel, fuel = 1000 := ⟨_, rfl⟩
  obtain ⟨fuel, hfu⟩ := hfu
  refine ⟨fuel, ?_⟩
  rw [eq203]
  unfold S203
  have hns := len_sl (l := ss)
  have hloop : iter (tbody 2 (S203L2 G fuel (sl ss) (.int (ss.length : Int)))) fuel [.lst [], .int 0] = some (0, [il (outN ss ss.length), .int (ss.length : Int), .bool false]) := by
    have h1 := iter_to (body := tbody 2 (S203L2 G fuel (sl ss) (.int (ss.length : Int)))) (n := ss.length) (f := fuel) (l := 0) (ds := [il (outN ss ss.length), .int (ss.length : Int), .bool false])
      (fun i => [il (outN ss i), .int (i : Int)]) (by omega) ?_ ?_
    · have e0 : outN ss 0 = [] := by unfold outN; rfl
      simpa [e0, il_nil] using h1
    · intro i hi
      refine tb rfl ?_
      have h0 : decide ((i : Int) < (ss.length : Int)) = true := by simpa using hi
      have hx := idx_sl hi
      have ha := add1n (i := i) (by omega)
      have hol := outN_len ss i
      have hole := outN_le ss i
      have hno := len_il (l := outN ss i)
      rw [hol] at hno
      have htop : taken ss (outN ss i) i i i = false := taken_top fun j hj => (hole j hj).2
      obtain ⟨hm1, hm2, hm3⟩ := colr_ok htop
      have hsucc : outN ss (i + 1) = outN ss i ++ [(colr (taken ss (outN ss i) i i) : Int)] := by
        conv => lhs; unfold outN
      rw [hsucc]
      generalize colr (taken ss (outN ss i) i i) = m at hm1 hm2 hm3 ⊢
      generalize outN ss i = cs at hol hole hno htop hm1 hm2 ⊢
      have hap := app_il (l := cs) (m := [(m : Int)]) (by simp; omega)
      have hq : (.lst [.int (m : Int)] : D) = il [(m : Int)] := by unfold il; rfl
      rw [← hq] at hap
      have h1loop : iter (tbody 2 (S203L1 G (sl ss) [il cs, .int (i : Int)] (.int (i : Int)))) fuel [.lst [], .int 0] = some (0, [il (tkL ss cs i i), .int (i : Int), .bool false]) := by
        have h1 := iter_to (body := tbody 2 (S203L1 G (sl ss) [il cs, .int (i : Int)] (.int (i : Int)))) (n := i) (f := fuel) (l := 0) (ds := [il (tkL ss cs i i), .int (i : Int), .bool false])
          (fun k => [il (tkL ss cs i k), .int (k : Int)]) (by omega) ?_ ?_
        · simpa [tkL, il_nil] using h1
        · intro k hk
          refine tb rfl ?_
          have h0 : decide ((k : Int) < (i : Int)) = true := by simpa using hk
          have yk := idx_sl (l := ss) (i := k) (by omega)
          have ck := idx_il (l := cs) (i := k) (by omega)
          have ak := add1n (i := k) (by omega)
          have hl := tkL_len ss cs i k
          have hf := F196_m (ss[i]'(by omega)) (ss[k]'(by omega))
          have hp := F204_m (l := tkL ss cs i k) (n := cs[k]'(by omega)) (by omega)
          simp only [tkL]
          rw [getD_lt hi, getD_lt (by omega : k < ss.length), getD_lt (by omega : k < cs.length)]
          unfold S203L1
          generalize tkL ss cs i k = tk at hp ⊢
          cases hm : meetS (ss[i]'(by omega)) (ss[k]'(by omega))
          · rw [hm] at hf
            rw [if_neg (by simp)]
            repeat' first
              | with_reducible refine st_ift ?_
              | with_reducible refine st_iff ?_
              | ((with_reducible apply st_ift2); exact rfl)
              | ((with_reducible apply st_iff2); exact rfl)
              | (with_reducible refine st_join (ds := [il tk]) ?_ ?_ ?_)
              | ((with_reducible apply st_call); exact g196; exact rfl; exact hf; exact rfl)
              | ((with_reducible apply st_some); exact hx)
              | ((with_reducible apply st_some); exact yk)
              | ((with_reducible apply st_some); exact ak)
              | ((with_reducible apply st_callt); assumption; exact rfl; exact rfl; assumption)
              | ((with_reducible apply st_callf); assumption; exact rfl; exact rfl; assumption)
              | ((with_reducible apply st_call); assumption; exact rfl; exact rfl; exact rfl)
              | ((with_reducible apply st_wide); exact rfl; exact rfl)
              | ((with_reducible apply st_skip); exact rfl)
              | ((with_reducible apply st_t); exact rfl; exact rfl)
              | ((with_reducible apply st_f); exact rfl; exact rfl)
              | ((with_reducible apply st_t); exact rfl; assumption)
              | ((with_reducible apply st_f); exact rfl; assumption)
              | ((with_reducible apply st_some); exact rfl)
              | exact rfl
          · rw [hm] at hf
            rw [if_pos rfl]
            generalize putL tk (cs[k]'(by omega)) = pl at hp ⊢
            repeat' first
              | with_reducible refine st_ift ?_
              | with_reducible refine st_iff ?_
              | ((with_reducible apply st_ift2); exact rfl)
              | ((with_reducible apply st_iff2); exact rfl)
              | (with_reducible refine st_join (ds := [il pl]) ?_ ?_ ?_)
              | ((with_reducible apply st_call); exact g196; exact rfl; exact hf; exact rfl)
              | ((with_reducible apply st_call); exact g204; exact rfl; exact hp; exact rfl)
              | ((with_reducible apply st_some); exact hx)
              | ((with_reducible apply st_some); exact yk)
              | ((with_reducible apply st_some); exact ak)
              | ((with_reducible apply st_some); exact ck)
              | ((with_reducible apply st_callt); assumption; exact rfl; exact rfl; assumption)
              | ((with_reducible apply st_callf); assumption; exact rfl; exact rfl; assumption)
              | ((with_reducible apply st_call); assumption; exact rfl; exact rfl; exact rfl)
              | ((with_reducible apply st_wide); exact rfl; exact rfl)
              | ((with_reducible apply st_skip); exact rfl)
              | ((with_reducible apply st_t); exact rfl; exact rfl)
              | ((with_reducible apply st_f); exact rfl; exact rfl)
              | ((with_reducible apply st_t); exact rfl; assumption)
              | ((with_reducible apply st_f); exact rfl; assumption)
              | ((with_reducible apply st_some); exact rfl)
              | exact rfl
        · refine tb rfl ?_
          have h0 : decide ((i : Int) < (i : Int)) = false := by simp
          unfold S203L1
          repeat' first
            | with_reducible refine st_ift ?_
            | with_reducible refine st_iff ?_
            | ((with_reducible apply st_ift2); exact rfl)
            | ((with_reducible apply st_iff2); exact rfl)
            | ((with_reducible apply st_callt); assumption; exact rfl; exact rfl; assumption)
            | ((with_reducible apply st_callf); assumption; exact rfl; exact rfl; assumption)
            | ((with_reducible apply st_call); assumption; exact rfl; exact rfl; exact rfl)
            | ((with_reducible apply st_wide); exact rfl; exact rfl)
            | ((with_reducible apply st_skip); exact rfl)
            | ((with_reducible apply st_t); exact rfl; exact rfl)
            | ((with_reducible apply st_f); exact rfl; exact rfl)
            | ((with_reducible apply st_t); exact rfl; assumption)
            | ((with_reducible apply st_f); exact rfl; assumption)
            | ((with_reducible apply st_some); exact rfl)
            | exact rfl
      have h2loop : iter (tbody 1 (S203L0 G [il (tkL ss cs i i), .int (i : Int), .bool false])) fuel [.int 0] = some (0, [.int (m : Int), .int (m : Int), .bool false]) := by
        have hl := tkL_len ss cs i i
        refine iter_to (body := tbody 1 (S203L0 G [il (tkL ss cs i i), .int (i : Int), .bool false])) (n := m) (f := fuel) (l := 0) (fun c => [.int (c : Int)]) (by omega) (fun c hcm => ?_) ?_
        · refine tb rfl ?_
          have hf := F205_m (l := tkL ss cs i i) (n := (c : Int)) (by omega)
          rw [tkL_has, hm2 c hcm] at hf
          have ac := add1n (i := c) (by omega)
          unfold S203L0
          repeat' first
            | with_reducible refine st_ift ?_
            | with_reducible refine st_iff ?_
            | ((with_reducible apply st_ift2); exact rfl)
            | ((with_reducible apply st_iff2); exact rfl)
            | ((with_reducible apply st_call); exact g205; exact rfl; exact hf; exact rfl)
            | ((with_reducible apply st_some); exact ac)
            | ((with_reducible apply st_callt); assumption; exact rfl; exact rfl; assumption)
            | ((with_reducible apply st_callf); assumption; exact rfl; exact rfl; assumption)
            | ((with_reducible apply st_call); assumption; exact rfl; exact rfl; exact rfl)
            | ((with_reducible apply st_wide); exact rfl; exact rfl)
            | ((with_reducible apply st_skip); exact rfl)
            | ((with_reducible apply st_t); exact rfl; exact rfl)
            | ((with_reducible apply st_f); exact rfl; exact rfl)
            | ((with_reducible apply st_t); exact rfl; assumption)
            | ((with_reducible apply st_f); exact rfl; assumption)
            | ((with_reducible apply st_some); exact rfl)
            | exact rfl
        · refine tb rfl ?_
          have hf := F205_m (l := tkL ss cs i i) (n := (m : Int)) (by omega)
          rw [tkL_has, hm1] at hf
          unfold S203L0
          repeat' first
            | with_reducible refine st_ift ?_
            | with_reducible refine st_iff ?_
            | ((with_reducible apply st_ift2); exact rfl)
            | ((with_reducible apply st_iff2); exact rfl)
            | ((with_reducible apply st_call); exact g205; exact rfl; exact hf; exact rfl)
            | ((with_reducible apply st_callt); assumption; exact rfl; exact rfl; assumption)
            | ((with_reducible apply st_callf); assumption; exact rfl; exact rfl; assumption)
            | ((with_reducible apply st_call); assumption; exact rfl; exact rfl; exact rfl)
            | ((with_reducible apply st_wide); exact rfl; exact rfl)
            | ((with_reducible apply st_skip); exact rfl)
            | ((with_reducible apply st_t); exact rfl; exact rfl)
            | ((with_reducible apply st_f); exact rfl; exact rfl)
            | ((with_reducible apply st_t); exact rfl; assumption)
            | ((with_reducible apply st_f); exact rfl; assumption)
            | ((with_reducible apply st_some); exact rfl)
            | exact rfl
      unfold S203L2
      repeat' first
        | with_reducible refine st_ift ?_
        | with_reducible refine st_iff ?_
        | ((with_reducible apply st_ift2); exact rfl)
        | ((with_reducible apply st_iff2); exact rfl)
        | ((with_reducible apply st_join); exact h1loop; exact rfl)
        | ((with_reducible apply st_join); exact h2loop; exact rfl)
        | ((with_reducible apply st_some); exact hx)
        | ((with_reducible apply st_some); exact ha)
        | ((with_reducible apply st_some); exact hap)
        | ((with_reducible apply st_some); exact hno)
        | ((with_reducible apply st_callt); assumption; exact rfl; exact rfl; assumption)
        | ((with_reducible apply st_callf); assumption; exact rfl; exact rfl; assumption)
        | ((with_reducible apply st_call); assumption; exact rfl; exact rfl; exact rfl)
        | ((with_reducible apply st_wide); exact rfl; exact rfl)
        | ((with_reducible apply st_skip); exact rfl)
        | ((with_reducible apply st_t); exact rfl; exact rfl)
        | ((with_reducible apply st_f); exact rfl; exact rfl)
        | ((with_reducible apply st_t); exact rfl; assumption)
        | ((with_reducible apply st_f); exact rfl; assumption)
        | ((with_reducible apply st_some); exact rfl)
        | exact rfl
    · refine tb rfl ?_
      have h0 : decide ((ss.length : Int) < (ss.length : Int)) = false := by simp
      unfold S203L2
      repeat' first
        | with_reducible refine st_ift ?_
        | with_reducible refine st_iff ?_
        | ((with_reducible apply st_ift2); exact rfl)
        | ((with_reducible apply st_iff2); exact rfl)
        | ((with_reducible apply st_callt); assumption; exact rfl; exact rfl; assumption)
        | ((with_reducible apply st_callf); assumption; exact rfl; exact rfl; assumption)
        | ((with_reducible apply st_call); assumption; exact rfl; exact rfl; exact rfl)
        | ((with_reducible apply st_wide); exact rfl; exact rfl)
        | ((with_reducible apply st_skip); exact rfl)
        | ((with_reducible apply st_t); exact rfl; exact rfl)
        | ((with_reducible apply st_f); exact rfl; exact rfl)
        | ((with_reducible apply st_t); exact rfl; assumption)
        | ((with_reducible apply st_f); exact rfl; assumption)
        | ((with_reducible apply st_some); exact rfl)
        | exact rfl
  repeat' first
    | with_reducible refine st_ift ?_
    | with_reducible refine st_iff ?_
    | ((with_reducible apply st_ift2); exact rfl)
    | ((with_reducible apply st_iff2); exact rfl)
    | ((with_reducible apply st_join); exact hloop; exact rfl)
    | ((with_reducible apply st_some); exact hns)
    | ((with_reducible apply st_callt); assumption; exact rfl; exact rfl; assumption)
    | ((with_reducible apply st_callf); assumption; exact rfl; exact rfl; assumption)
    | ((with_reducible apply st_call); assumption; exact rfl; exact rfl; exact rfl)
    | ((with_reducible apply st_wide); exact rfl; exact rfl)
    | ((with_reducible apply st_skip); exact rfl)
    | ((with_reducible apply st_t); exact rfl; exact rfl)
    | ((with_reducible apply st_f); exact rfl; exact rfl)
    | ((with_reducible apply st_t); exact rfl; assumption)
    | ((with_reducible apply st_f); exact rfl; assumption)
    | ((with_reducible apply st_some); exact rfl)
    | exact rfl
set_option maxHeartbeats 4000000 in
theorem run206 {G : Told} (g196 : G 196 = F196) : ∀ ds rs, F206 ds = some rs → ∃ fuel, run G fuel T206 ds = some (0, rs) := by
  intro ds rs h
  unfold F206 F203 at h
  obtain ⟨⟨B, r⟩, hb, h⟩ := Option.bind_eq_some_iff.1 h
  rw [dB_inv hb]
  split at h
  case isFalse => cases h
  rename_i hc
  simp only [Option.some.injEq] at h
  subst h
  obtain ⟨hr, hc⟩ := hc
  dsimp only at hr hc
  subst hr
  obtain ⟨vs, ts, ss, fm, bn, ws, x, y, z⟩ := B
  have hc : ss.length ≤ 200 := hc
  show ∃ fuel, run G fuel T206 (bd ⟨vs, ts, ss, fm, bn, ws, x, y, z⟩ ++ []) = some (0, [il (outN ss ss.length)])
  simp only [bd, List.cons_append, List.nil_append]
  have hfu : ∃ fuel, fuel = 1000 := ⟨_, rfl⟩
  obtain ⟨fuel, hfu⟩ := hfu
  refine ⟨fuel, ?_⟩
  rw [eq206]
  unfold S206
  have hns := len_sl (l := ss)
  have hloop : iter (tbody 2 (S206L2 G fuel (sl ss) (.int (ss.length : Int)))) fuel [.lst [], .int 0] = some (0, [il (outN ss ss.length), .int (ss.length : Int), .bool false]) := by
    have h1 := iter_to (body := tbody 2 (S206L2 G fuel (sl ss) (.int (ss.length : Int)))) (n := ss.length) (f := fuel) (l := 0) (ds := [il (outN ss ss.length), .int (ss.length : Int), .bool false])
      (fun i => [il (outN ss i), .int (i : Int)]) (by omega) ?_ ?_
    · have e0 : outN ss 0 = [] := by unfold outN; rfl
      simpa [e0, il_nil] using h1
    · intro i hi
      refine tb rfl ?_
      have h0 : decide ((i : Int) < (ss.length : Int)) = true := by simpa using hi
      have hx := idx_sl hi
      have ha := add1n (i := i) (by omega)
      have hol := outN_len ss i
      have hole := outN_le ss i
      have hno := len_il (l := outN ss i)
      rw [hol] at hno
      have htop : taken ss (outN ss i) i i i = false := taken_top fun j hj => (hole j hj).2
      obtain ⟨hm1, hm2, hm3⟩ := colr_ok htop
      have hsucc : outN ss (i + 1) = outN ss i ++ [(colr (taken ss (outN ss i) i i) : Int)] := by
        conv => lhs; unfold outN
      rw [hsucc]
      generalize colr (taken ss (outN ss i) i i) = m at hm1 hm2 hm3 ⊢
      generalize outN ss i = cs at hol hole hno htop hm1 hm2 ⊢
      have hap := app_il (l := cs) (m := [(m : Int)]) (by simp; omega)
      have hq : (.lst [.int (m : Int)] : D) = il [(m : Int)] := by unfold il; rfl
      rw [← hq] at hap
      have htk : ∃ tkB : Nat → List Bool, (∀ k, (tkB k).length = i + 1) ∧ tkB 0 = List.replicate (i + 1) false ∧ (∀ k, (hk : k < i) → tkB (k + 1) = if meetS ss[i] (ss[k]'(by omega)) = true then (tkB k).set (cs[k]'(by omega)).toNat true else tkB k) ∧ ∀ c, (hc : c < i + 1) → (tkB i).getD c false = taken ss cs i i c := by
        refine ⟨fun k => (List.range (i + 1)).map fun c => taken ss cs i k c, by simp, ?_, fun k hk => ?_, fun c hc => ?_⟩
        · refine List.ext_getElem (by simp) fun j h1 h2 => ?_
          simp only [List.getElem_map, List.getElem_replicate]
          unfold taken
          simp
        · have hstep : ∀ c, taken ss cs i (k + 1) c = (taken ss cs i k c || (meetS ss[i] (ss[k]'(by omega)) && ((cs[k]'(by omega)) == (c : Int)))) := by
            intro c
            unfold taken
            rw [List.range_succ, List.any_append]
            simp only [List.any_cons, List.any_nil, Bool.or_false]
            rw [getD_lt hi, getD_lt (by omega : k < ss.length), getD_lt (by omega : k < cs.length)]
          have hkk := hole k hk
          rw [getD_lt (by omega : k < cs.length)] at hkk
          cases hm : meetS ss[i] (ss[k]'(by omega))
          · rw [if_neg (by simp)]
            refine List.map_congr_left fun c _ => ?_
            rw [hstep, hm]
            simp
          · rw [if_pos rfl]
            refine List.ext_getElem (by simp) fun j h1 h2 => ?_
            simp only [List.length_map, List.length_range] at h1
            rw [List.getElem_set]
            simp only [List.getElem_map, List.getElem_range]
            rw [hstep, hm, Bool.true_and]
            split
            · rename_i he
              have : ((cs[k]'(by omega)) == (j : Int)) = true := by simp; omega
              rw [this, Bool.or_true]
            · rename_i he
              have : ((cs[k]'(by omega)) == (j : Int)) = false := by simp; omega
              rw [this, Bool.or_false]
        · rw [getD_lt (by simpa using hc)]
          simp
      obtain ⟨tkB, hb1, hb2, hb3, hb4⟩ := htk
      have hrep := rep_bl (n := i + 1) (by omega)
      rw [← hb2] at hrep
      have hsub := sub_sl (l := ss) (n := i) (by omega)
      have hnt := len_sl (l := ss.take i)
      rw [List.length_take, show min i ss.length = i from by omega] at hnt
      have h1loop : iter (tbody 2 (S206L1 G [il cs, .int (i : Int)] (.int ss[i].a) (.int ss[i].b) (.flt ss[i].l) (.flt ss[i].k) (sl (ss.take i)) (.int (i : Int)))) fuel [bl (tkB 0), .int 0] = some (0, [bl (tkB i), .int (i : Int), .bool false]) := by
        refine iter_to (body := tbody 2 (S206L1 G [il cs, .int (i : Int)] (.int ss[i].a) (.int ss[i].b) (.flt ss[i].l) (.flt ss[i].k) (sl (ss.take i)) (.int (i : Int)))) (n := i) (f := fuel) (l := 0) (fun k => [bl (tkB k), .int (k : Int)]) (by omega) (fun k hk => ?_) ?_
        · refine tb rfl ?_
          have h0 : decide ((k : Int) < (i : Int)) = true := by simpa using hk
          have yk := idx_sl (l := ss.take i) (i := k) (by simp; omega)
          rw [List.getElem_take] at yk
          have ck := idx_il (l := cs) (i := k) (by omega)
          have ak := add1n (i := k) (by omega)
          have hf := F196_m (ss[i]'(by omega)) (ss[k]'(by omega))
          have hkk := hole k hk
          rw [getD_lt (by omega : k < cs.length)] at hkk
          have hlb := hb1 k
          have es := hb3 k hk
          have hck : (cs[k]'(by omega)) = (((cs[k]'(by omega)).toNat : Nat) : Int) := by omega
          have xb := idx_bl (l := tkB k) (i := (cs[k]'(by omega)).toNat) (by omega)
          have sb := set_bl (l := tkB k) (i := (cs[k]'(by omega)).toNat) (v := true) (by omega)
          rw [← hck] at xb sb
          unfold S206L1
          cases hm : meetS (ss[i]'(by omega)) (ss[k]'(by omega))
          · rw [hm] at hf
            rw [hm, if_neg (by simp)] at es
            rw [es]
            repeat' first
              | with_reducible refine st_ift ?_
              | with_reducible refine st_iff ?_
              | ((with_reducible apply st_ift2); exact rfl)
              | ((with_reducible apply st_iff2); exact rfl)
              | (with_reducible refine st_join (ds := [bl (tkB k)]) ?_ ?_ ?_)
              | ((with_reducible apply st_t); exact rfl; exact h0)
              | ((with_reducible apply st_call); exact g196; exact rfl; exact hf; exact rfl)
              | ((with_reducible apply st_some); exact yk)
              | ((with_reducible apply st_some); exact ak)
              | ((with_reducible apply st_callt); assumption; exact rfl; exact rfl; assumption)
              | ((with_reducible apply st_callf); assumption; exact rfl; exact rfl; assumption)
              | ((with_reducible apply st_call); assumption; exact rfl; exact rfl; exact rfl)
              | ((with_reducible apply st_wide); exact rfl; exact rfl)
              | ((with_reducible apply st_skip); exact rfl)
              | ((with_reducible apply st_t); exact rfl; exact rfl)
              | ((with_reducible apply st_f); exact rfl; exact rfl)
              | ((with_reducible apply st_t); exact rfl; assumption)
              | ((with_reducible apply st_f); exact rfl; assumption)
              | ((with_reducible apply st_some); exact rfl)
              | exact rfl
          · rw [hm] at hf
            rw [hm, if_pos rfl] at es
            rw [es]
            repeat' first
              | with_reducible refine st_ift ?_
              | with_reducible refine st_iff ?_
              | ((with_reducible apply st_ift2); exact rfl)
              | ((with_reducible apply st_iff2); exact rfl)
              | (with_reducible refine st_join (ds := [bl ((tkB k).set (cs[k]'(by omega)).toNat true)]) ?_ ?_ ?_)
              | ((with_reducible apply st_t); exact rfl; exact h0)
              | ((with_reducible apply st_call); exact g196; exact rfl; exact hf; exact rfl)
              | ((with_reducible apply st_some); exact yk)
              | ((with_reducible apply st_some); exact ak)
              | ((with_reducible apply st_some); exact ck)
              | ((with_reducible apply st_some); exact xb)
              | ((with_reducible apply st_some); exact sb)
              | ((with_reducible apply st_callt); assumption; exact rfl; exact rfl; assumption)
              | ((with_reducible apply st_callf); assumption; exact rfl; exact rfl; assumption)
              | ((with_reducible apply st_call); assumption; exact rfl; exact rfl; exact rfl)
              | ((with_reducible apply st_wide); exact rfl; exact rfl)
              | ((with_reducible apply st_skip); exact rfl)
              | ((with_reducible apply st_t); exact rfl; exact rfl)
              | ((with_reducible apply st_f); exact rfl; exact rfl)
              | ((with_reducible apply st_t); exact rfl; assumption)
              | ((with_reducible apply st_f); exact rfl; assumption)
              | ((with_reducible apply st_some); exact rfl)
              | exact rfl
        · refine tb rfl ?_
          have h0 : decide ((i : Int) < (i : Int)) = false := by simp
          unfold S206L1
          repeat' first
            | with_reducible refine st_ift ?_
            | with_reducible refine st_iff ?_
            | ((with_reducible apply st_ift2); exact rfl)
            | ((with_reducible apply st_iff2); exact rfl)
            | ((with_reducible apply st_f); exact rfl; exact h0)
            | ((with_reducible apply st_callt); assumption; exact rfl; exact rfl; assumption)
            | ((with_reducible apply st_callf); assumption; exact rfl; exact rfl; assumption)
            | ((with_reducible apply st_call); assumption; exact rfl; exact rfl; exact rfl)
            | ((with_reducible apply st_wide); exact rfl; exact rfl)
            | ((with_reducible apply st_skip); exact rfl)
            | ((with_reducible apply st_t); exact rfl; exact rfl)
            | ((with_reducible apply st_f); exact rfl; exact rfl)
            | ((with_reducible apply st_t); exact rfl; assumption)
            | ((with_reducible apply st_f); exact rfl; assumption)
            | ((with_reducible apply st_some); exact rfl)
            | exact rfl
      have h2loop : iter (tbody 1 (S206L0 G [bl (tkB i), .int (i : Int), .bool false])) fuel [.int 0] = some (0, [.int (m : Int), .int (m : Int), .bool false]) := by
        have hlb := hb1 i
        refine iter_to (body := tbody 1 (S206L0 G [bl (tkB i), .int (i : Int), .bool false])) (n := m) (f := fuel) (l := 0) (fun c => [.int (c : Int)]) (by omega) (fun c hcm => ?_) ?_
        · refine tb rfl ?_
          have xb := idx_bl (l := tkB i) (i := c) (by omega)
          have hv := hb4 c (by omega)
          rw [getD_lt (by omega), hm2 c hcm] at hv
          rw [hv] at xb
          have ac := add1n (i := c) (by omega)
          unfold S206L0
          repeat' first
            | with_reducible refine st_ift ?_
            | with_reducible refine st_iff ?_
            | ((with_reducible apply st_ift2); exact rfl)
            | ((with_reducible apply st_iff2); exact rfl)
            | ((with_reducible apply st_some); exact xb)
            | ((with_reducible apply st_some); exact ac)
            | ((with_reducible apply st_callt); assumption; exact rfl; exact rfl; assumption)
            | ((with_reducible apply st_callf); assumption; exact rfl; exact rfl; assumption)
            | ((with_reducible apply st_call); assumption; exact rfl; exact rfl; exact rfl)
            | ((with_reducible apply st_wide); exact rfl; exact rfl)
            | ((with_reducible apply st_skip); exact rfl)
            | ((with_reducible apply st_t); exact rfl; exact rfl)
            | ((with_reducible apply st_f); exact rfl; exact rfl)
            | ((with_reducible apply st_t); exact rfl; assumption)
            | ((with_reducible apply st_f); exact rfl; assumption)
            | ((with_reducible apply st_some); exact rfl)
            | exact rfl
        · refine tb rfl ?_
          have xb := idx_bl (l := tkB i) (i := m) (by omega)
          have hv := hb4 m (by omega)
          rw [getD_lt (by omega), hm1] at hv
          rw [hv] at xb
          unfold S206L0
          repeat' first
            | with_reducible refine st_ift ?_
            | with_reducible refine st_iff ?_
            | ((with_reducible apply st_ift2); exact rfl)
            | ((with_reducible apply st_iff2); exact rfl)
            | ((with_reducible apply st_some); exact xb)
            | ((with_reducible apply st_callt); assumption; exact rfl; exact rfl; assumption)
            | ((with_reducible apply st_callf); assumption; exact rfl; exact rfl; assumption)
            | ((with_reducible apply st_call); assumption; exact rfl; exact rfl; exact rfl)
            | ((with_reducible apply st_wide); exact rfl; exact rfl)
            | ((with_reducible apply st_skip); exact rfl)
            | ((with_reducible apply st_t); exact rfl; exact rfl)
            | ((with_reducible apply st_f); exact rfl; exact rfl)
            | ((with_reducible apply st_t); exact rfl; assumption)
            | ((with_reducible apply st_f); exact rfl; assumption)
            | ((with_reducible apply st_some); exact rfl)
            | exact rfl
      unfold S206L2
      repeat' first
        | with_reducible refine st_ift ?_
        | with_reducible refine st_iff ?_
        | ((with_reducible apply st_ift2); exact rfl)
        | ((with_reducible apply st_iff2); exact rfl)
        | ((with_reducible apply st_some); with_reducible exact hrep)
        | ((with_reducible apply st_t); exact rfl; exact h0)
        | ((with_reducible apply st_join); exact h1loop; exact rfl)
        | ((with_reducible apply st_join); exact h2loop; exact rfl)
        | ((with_reducible apply st_some); exact hx)
        | ((with_reducible apply st_some); exact ha)
        | ((with_reducible apply st_some); exact hap)
        | ((with_reducible apply st_some); exact hsub)
        | ((with_reducible apply st_some); exact hnt)
        | ((with_reducible apply st_callt); assumption; exact rfl; exact rfl; assumption)
        | ((with_reducible apply st_callf); assumption; exact rfl; exact rfl; assumption)
        | ((with_reducible apply st_call); assumption; exact rfl; exact rfl; exact rfl)
        | ((with_reducible apply st_wide); exact rfl; exact rfl)
        | ((with_reducible apply st_skip); exact rfl)
        | ((with_reducible apply st_t); exact rfl; exact rfl)
        | ((with_reducible apply st_f); exact rfl; exact rfl)
        | ((with_reducible apply st_t); exact rfl; assumption)
        | ((with_reducible apply st_f); exact rfl; assumption)
        | ((with_reducible apply st_some); exact rfl)
        | exact rfl
    · refine tb rfl ?_
      have h0 : decide ((ss.length : Int) < (ss.length : Int)) = false := by simp
      unfold S206L2
      repeat' first
        | with_reducible refine st_ift ?_
        | with_reducible refine st_iff ?_
        | ((with_reducible apply st_ift2); exact rfl)
        | ((with_reducible apply st_iff2); exact rfl)
        | ((with_reducible apply st_callt); assumption; exact rfl; exact rfl; assumption)
        | ((with_reducible apply st_callf); assumption; exact rfl; exact rfl; assumption)
        | ((with_reducible apply st_call); assumption; exact rfl; exact rfl; exact rfl)
        | ((with_reducible apply st_wide); exact rfl; exact rfl)
        | ((with_reducible apply st_skip); exact rfl)
        | ((with_reducible apply st_t); exact rfl; exact rfl)
        | ((with_reducible apply st_f); exact rfl; exact rfl)
        | ((with_reducible apply st_t); exact rfl; assumption)
        | ((with_reducible apply st_f); exact rfl; assumption)
        | ((with_reducible apply st_some); exact rfl)
        | exact rfl
  repeat' first
    | with_reducible refine st_ift ?_
    | with_reducible refine st_iff ?_
    | ((with_reducible apply st_ift2); exact rfl)
    | ((with_reducible apply st_iff2); exact rfl)
    | ((with_reducible apply st_join); exact hloop; exact rfl)
    | ((with_reducible apply st_some); exact hns)
    | ((with_reducible apply st_callt); assumption; exact rfl; exact rfl; assumption)
    | ((with_reducible apply st_callf); assumption; exact rfl; exact rfl; assumption)
    | ((with_reducible apply st_call); assumption; exact rfl; exact rfl; exact rfl)
    | ((with_reducible apply st_wide); exact rfl; exact rfl)
    | ((with_reducible apply st_skip); exact rfl)
    | ((with_reducible apply st_t); exact rfl; exact rfl)
    | ((with_reducible apply st_f); exact rfl; exact rfl)
    | ((with_reducible apply st_t); exact rfl; assumption)
    | ((with_reducible apply st_f); exact rfl; assumption)
    | ((with_reducible apply st_some); exact rfl)
    | exact rfl
set_option maxHeartbeats 4000000 in
theorem run207 {G : Told} (g195 : G 195 = F195) (g206 : G 206 = F206) : ∀ ds rs, F207 ds = some rs → ∃ fuel, run G fuel T207 ds = some (0, rs) := by
  intro ds rs h
  unfold F207 at h
  obtain ⟨⟨B, r⟩, hb, h⟩ := Option.bind_eq_some_iff.1 h
  rw [dB_inv hb]
  split at h
  case isFalse => cases h
  rename_i hc
  simp only [Option.some.injEq] at h
  subst h
  obtain ⟨hr, hc⟩ := hc
  dsimp only at hr hc
  subst hr
  obtain ⟨vs, ts, ss, fm, bn, ws, x, y, z⟩ := B
  have hv := F195_m hc
  have h2 := fun h => F203_m (B := ⟨vs, ts, ss, fm, bn, ws, x, y, z⟩) (validB_200 h)
  unfold colP
  simp only [bd, List.cons_append, List.nil_append] at hv h2 ⊢
  generalize validB ⟨vs, ts, ss, fm, bn, ws, x, y, z⟩ = val at *
  refine ⟨0, ?_⟩
  rw [eq207]
  unfold S207
  cases val
  · rw [if_neg (by simp), il_nil]
    repeat' first
      | with_reducible refine st_ift ?_
      | with_reducible refine st_iff ?_
      | ((with_reducible apply st_ift2); exact rfl)
      | ((with_reducible apply st_iff2); exact rfl)
      | ((with_reducible apply st_call); exact g195; exact rfl; exact hv; exact rfl)
      | ((with_reducible apply st_callt); assumption; exact rfl; exact rfl; assumption)
      | ((with_reducible apply st_callf); assumption; exact rfl; exact rfl; assumption)
      | ((with_reducible apply st_call); assumption; exact rfl; exact rfl; exact rfl)
      | ((with_reducible apply st_wide); exact rfl; exact rfl)
      | ((with_reducible apply st_skip); exact rfl)
      | ((with_reducible apply st_t); exact rfl; exact rfl)
      | ((with_reducible apply st_f); exact rfl; exact rfl)
      | ((with_reducible apply st_t); exact rfl; assumption)
      | ((with_reducible apply st_f); exact rfl; assumption)
      | ((with_reducible apply st_some); exact rfl)
      | exact rfl
  · have h2 := h2 rfl
    rw [if_pos rfl]
    repeat' first
      | with_reducible refine st_ift ?_
      | with_reducible refine st_iff ?_
      | ((with_reducible apply st_ift2); exact rfl)
      | ((with_reducible apply st_iff2); exact rfl)
      | ((with_reducible apply st_call); exact g195; exact rfl; exact hv; exact rfl)
      | ((with_reducible apply st_call); exact g206; exact rfl; exact h2; exact rfl)
      | ((with_reducible apply st_callt); assumption; exact rfl; exact rfl; assumption)
      | ((with_reducible apply st_callf); assumption; exact rfl; exact rfl; assumption)
      | ((with_reducible apply st_call); assumption; exact rfl; exact rfl; exact rfl)
      | ((with_reducible apply st_wide); exact rfl; exact rfl)
      | ((with_reducible apply st_skip); exact rfl)
      | ((with_reducible apply st_t); exact rfl; exact rfl)
      | ((with_reducible apply st_f); exact rfl; exact rfl)
      | ((with_reducible apply st_t); exact rfl; assumption)
      | ((with_reducible apply st_f); exact rfl; assumption)
      | ((with_reducible apply st_some); exact rfl)
      | exact rfl
end Vs
