/-
  DropPlaces: what the functions compute, and the law.
-/
import Derived.Test.YtflfikfcbohddaaK9
namespace Vs
open Go

theorem st_ift4 {c : D} {a b X : Option (Nat × List D)} (h : c = .bool true) (k : a = X) : tif c a b = X := by subst h; exact k
theorem st_iff4 {c : D} {a b X : Option (Nat × List D)} (h : c = .bool false) (k : b = X) : tif c a b = X := by subst h; exact k
def bo (l : List Bool) : D := .lst (l.map .bool)
theorem idx_bo {l : List Bool} {i : Nat} (h : i < l.length) : gev none .idx [bo l, .int i] = some (.bool l[i]) := by
  have h2 : (i : Int) < ((l.map D.bool).length : Int) := by simp; omega
  simp only [gev, gok, if_true, Prim.ev, bo]
  rw [if_pos ⟨by omega, h2⟩]
  simp [h]
theorem set_bo {l : List Bool} {i : Nat} {v : Bool} (h : i < l.length) : gev none .set [bo l, .int i, .bool v] = some (bo (l.set i v)) := by
  have h2 : (i : Int) < ((l.map D.bool).length : Int) := by simp; omega
  simp only [gev, gok, if_true, Prim.ev, bo]
  rw [if_pos ⟨by omega, h2⟩]
  simp [List.map_set]
theorem rep_bo {n : Nat} (h : n ≤ 1048576) : gev none .rep [.int n, .bool false] = some (bo (List.replicate n false)) := by
  simp only [gev, gok, if_true, Prim.ev, bo]
  rw [if_pos (by omega)]
  simp
/-! ### Places that are in triangles -/
noncomputable def F167 : List D → Option (List D)
  | [a, .int p] => (dI a).bind fun t => if t.length = 3 then some [.bool (t.contains p)] else none
  | _ => none
theorem F167_m {t : List Int} {p : Int} (h : t.length = 3) : F167 [il t, .int p] = some [.bool (t.contains p)] := by
  simp only [F167, dI_il, Option.bind_some]
  rw [if_pos h]
def T167 : T :=
(.op none .idx [(.v 0), (.c (.int 0))] <|
(.op none (.icm .eql) [(.v 2), (.v 1)] <|
(.op (some ((.v 3), false)) .id [(.v 0)] <|
(.op (some ((.v 3), false)) .idx [(.v 4), (.c (.int 1))] <|
(.op (some ((.v 3), false)) .id [(.v 5)] <|
(.op (some ((.v 3), false)) .id [(.v 1)] <|
(.op (some ((.v 3), false)) (.icm .eql) [(.v 6), (.v 7)] <|
(.op none .pick [(.v 3), (.c (.bool true)), (.v 8)] <|
(.op (some ((.v 9), false)) .id [(.v 0)] <|
(.op (some ((.v 9), false)) .idx [(.v 10), (.c (.int 2))] <|
(.op (some ((.v 9), false)) .id [(.v 11)] <|
(.op (some ((.v 9), false)) .id [(.v 1)] <|
(.op (some ((.v 9), false)) (.icm .eql) [(.v 12), (.v 13)] <|
(.op none .pick [(.v 9), (.c (.bool true)), (.v 14)] <|
(.out 0 [(.v 15)])))))))))))))))
def S167 (_G : Told) (_fuel : Nat) (x0 x1 : D) : Option (Nat × List D) :=
  (gev none .idx [x0, (.int 0)]).bind fun x2 =>
  (gev none (.icm .eql) [x2, x1]).bind fun x3 =>
  (gev (some (x3, false)) .id [x0]).bind fun x4 =>
  (gev (some (x3, false)) .idx [x4, (.int 1)]).bind fun x5 =>
  (gev (some (x3, false)) .id [x5]).bind fun x6 =>
  (gev (some (x3, false)) .id [x1]).bind fun x7 =>
  (gev (some (x3, false)) (.icm .eql) [x6, x7]).bind fun x8 =>
  (gev none .pick [x3, (.bool true), x8]).bind fun x9 =>
  (gev (some (x9, false)) .id [x0]).bind fun x10 =>
  (gev (some (x9, false)) .idx [x10, (.int 2)]).bind fun x11 =>
  (gev (some (x9, false)) .id [x11]).bind fun x12 =>
  (gev (some (x9, false)) .id [x1]).bind fun x13 =>
  (gev (some (x9, false)) (.icm .eql) [x12, x13]).bind fun x14 =>
  (gev none .pick [x9, (.bool true), x14]).bind fun x15 =>
  some (0, [x15])
theorem eq167 {G : Told} {fuel : Nat} (x0 x1 : D) : run G fuel T167 [x0, x1] = S167 G fuel x0 x1 := by
  rw [run_eq]; kernel_rfl

def T168 : T :=
(.op none .mklst [] <|
(.join 5
  (.loop [(.v 4), (.c (.int 0))]
    (.op none .len [(.v 1)] <|
    (.op none (.icm .lss) [(.v 6), (.v 7)] <|
    (.ite (.v 8)
      (.op none .idx [(.v 1), (.v 6)] <|
      (.call none 167 [(.v 9), (.v 2)] 1 <|
      (.op (some ((.v 10), true)) .id [(.v 1)] <|
      (.op (some ((.v 10), true)) .id [(.v 6)] <|
      (.op (some ((.v 10), true)) .idx [(.v 11), (.v 12)] <|
      (.op (some ((.v 10), true)) .id [(.v 13)] <|
      (.op (some ((.v 10), true)) .id [(.v 3)] <|
      (.call (some ((.v 10), true)) 167 [(.v 14), (.v 15)] 1 <|
      (.op none .pick [(.v 10), (.v 16), (.c (.bool false))] <|
      (.join 1
        (.ite (.v 17)
          (.op none .mklst [(.v 6)] <|
          (.op none .app [(.v 5), (.v 18)] <|
          (.out 0 [(.v 19)])))
          (.out 0 [(.v 5)]))
      (.op none (.iar .add .i64) [(.v 6), (.c (.int 1))] <|
      (.out 0 [(.v 18), (.v 19)]))))))))))))
      (.out 1 [(.v 5), (.v 6), (.v 6), (.v 7), (.v 8)])))))
(.out 0 [(.v 5)])))
def S168L0 (G : Told) (x1 : D) (x2 : D) (x3 : D) : List D → Option (Nat × List D) := fun e5 =>
      (gev none .len [x1]).bind fun x7 =>
      (gev none (.icm .lss) [(e5.getD 1 .undef), x7]).bind fun x8 =>
      tif x8 (
        (gev none .idx [x1, (e5.getD 1 .undef)]).bind fun x9 =>
        (gcall G none 167 [x9, x2] 1).bind fun e10 =>
        (gev (some ((e10.getD 0 .undef), true)) .id [x1]).bind fun x11 =>
        (gev (some ((e10.getD 0 .undef), true)) .id [(e5.getD 1 .undef)]).bind fun x12 =>
        (gev (some ((e10.getD 0 .undef), true)) .idx [x11, x12]).bind fun x13 =>
        (gev (some ((e10.getD 0 .undef), true)) .id [x13]).bind fun x14 =>
        (gev (some ((e10.getD 0 .undef), true)) .id [x3]).bind fun x15 =>
        (gcall G (some ((e10.getD 0 .undef), true)) 167 [x14, x15] 1).bind fun e16 =>
        (gev none .pick [(e10.getD 0 .undef), (e16.getD 0 .undef), (.bool false)]).bind fun x17 =>
        tjoin 1 (
          tif x17 (
            (gev none .mklst [(e5.getD 1 .undef)]).bind fun x18 =>
            (gev none .app [(e5.getD 0 .undef), x18]).bind fun x19 =>
            some (0, [x19])) (
            some (0, [(e5.getD 0 .undef)]))) fun e18 =>
        (gev none (.iar .add .i64) [(e5.getD 1 .undef), (.int 1)]).bind fun x19 =>
        some (0, [(e18.getD 0 .undef), x19])) (
        some (1, [(e5.getD 0 .undef), (e5.getD 1 .undef), (e5.getD 1 .undef), x7, x8]))
def S168 (G : Told) (fuel : Nat) (_x0 x1 x2 x3 : D) : Option (Nat × List D) :=
  (gev none .mklst []).bind fun x4 =>
  tjoin 5 (
    iter (tbody 2 (S168L0 G x1 x2 x3)) fuel [x4, (.int 0)]) fun e5 =>
  some (0, [(e5.getD 0 .undef)])
theorem eq168 {G : Told} {fuel : Nat} (x0 x1 x2 x3 : D) : run G fuel T168 [x0, x1, x2, x3] = S168 G fuel x0 x1 x2 x3 := by
  rw [run_eq]; kernel_rfl

attribute [local irreducible] tif tjoin IntKind.wrap feq fadd fmul fsub fdiv fgt i2f sameP wide eqV vl il tl totL szM szP marksV marksT inr triP validP bo

set_option maxHeartbeats 4000000 in
theorem run167 {G : Told} : ∀ ds rs, F167 ds = some rs → ∃ fuel, run G fuel T167 ds = some (0, rs) := by
  intro ds rs h
  unfold F167 at h
  split at h
  case h_2 => cases h
  rename_i a p
  obtain ⟨t, ha, h⟩ := Option.bind_eq_some_iff.1 h
  rw [dI_inv ha]
  split at h
  case isFalse => cases h
  rename_i hc
  simp only [Option.some.injEq] at h
  subst h
  obtain ⟨x, y, z, rfl⟩ := len3 hc
  have x0 : gev none .idx [il [x, y, z], .int 0] = some (.int x) := idx_il (l := [x, y, z]) (i := 0) (by simp)
  have x1 : gev none .idx [il [x, y, z], .int 1] = some (.int y) := idx_il (l := [x, y, z]) (i := 1) (by simp)
  have x2 : gev none .idx [il [x, y, z], .int 2] = some (.int z) := idx_il (l := [x, y, z]) (i := 2) (by simp)
  refine ⟨0, ?_⟩
  rw [eq167]
  unfold S167
  have e : [x, y, z].contains p = ((x == p) || (y == p) || (z == p)) := by
    rw [Bool.eq_iff_iff]
    simp only [List.contains_iff_mem, List.mem_cons, List.not_mem_nil, or_false, Bool.or_eq_true, beq_iff_eq]
    constructor
    · rintro (h | h | h)
      · exact .inl (.inl h.symm)
      · exact .inl (.inr h.symm)
      · exact .inr h.symm
    · rintro ((h | h) | h)
      · exact .inl h.symm
      · exact .inr (.inl h.symm)
      · exact .inr (.inr h.symm)
  rw [e]
  cases h1 : x == p
  · cases h2 : y == p
    · repeat' first
        | with_reducible refine st_ift ?_
        | with_reducible refine st_iff ?_
        | ((with_reducible apply st_ift4); exact rfl)
        | ((with_reducible apply st_iff4); exact rfl)
        | ((with_reducible apply st_some); exact x0)
        | ((with_reducible apply st_some); exact x1)
        | ((with_reducible apply st_some); exact x2)
        | ((with_reducible apply st_callt); assumption; exact rfl; exact rfl; assumption)
        | ((with_reducible apply st_callf); assumption; exact rfl; exact rfl; assumption)
        | ((with_reducible apply st_call); assumption; exact rfl; exact rfl; exact rfl)
        | ((with_reducible apply st_wide); exact rfl; exact rfl)
        | ((with_reducible apply st_skip); exact rfl)
        | ((with_reducible apply st_t); exact rfl; exact rfl)
        | ((with_reducible apply st_f); exact rfl; exact rfl)
        | ((with_reducible apply st_t); exact rfl; assumption)
        | ((with_reducible apply st_f); exact rfl; assumption)
        | ((with_reducible apply st_some); exact rfl)
        | exact rfl
    · repeat' first
        | with_reducible refine st_ift ?_
        | with_reducible refine st_iff ?_
        | ((with_reducible apply st_ift4); exact rfl)
        | ((with_reducible apply st_iff4); exact rfl)
        | ((with_reducible apply st_some); exact x0)
        | ((with_reducible apply st_some); exact x1)
        | ((with_reducible apply st_some); exact x2)
        | ((with_reducible apply st_callt); assumption; exact rfl; exact rfl; assumption)
        | ((with_reducible apply st_callf); assumption; exact rfl; exact rfl; assumption)
        | ((with_reducible apply st_call); assumption; exact rfl; exact rfl; exact rfl)
        | ((with_reducible apply st_wide); exact rfl; exact rfl)
        | ((with_reducible apply st_skip); exact rfl)
        | ((with_reducible apply st_t); exact rfl; exact rfl)
        | ((with_reducible apply st_f); exact rfl; exact rfl)
        | ((with_reducible apply st_t); exact rfl; assumption)
        | ((with_reducible apply st_f); exact rfl; assumption)
        | ((with_reducible apply st_some); exact rfl)
        | exact rfl
  · repeat' first
      | with_reducible refine st_ift ?_
      | with_reducible refine st_iff ?_
      | ((with_reducible apply st_ift4); exact rfl)
      | ((with_reducible apply st_iff4); exact rfl)
      | ((with_reducible apply st_some); exact x0)
      | ((with_reducible apply st_some); exact x1)
      | ((with_reducible apply st_some); exact x2)
      | ((with_reducible apply st_callt); assumption; exact rfl; exact rfl; assumption)
      | ((with_reducible apply st_callf); assumption; exact rfl; exact rfl; assumption)
      | ((with_reducible apply st_call); assumption; exact rfl; exact rfl; exact rfl)
      | ((with_reducible apply st_wide); exact rfl; exact rfl)
      | ((with_reducible apply st_skip); exact rfl)
      | ((with_reducible apply st_t); exact rfl; exact rfl)
      | ((with_reducible apply st_f); exact rfl; exact rfl)
      | ((with_reducible apply st_t); exact rfl; assumption)
      | ((with_reducible apply st_f); exact rfl; assumption)
      | ((with_reducible apply st_some); exact rfl)
      | exact rfl
end Vs
