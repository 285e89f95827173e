/-
  The point at which three paths meet.
-/
import Derived.Test.YtfpmhmngebnphaaM3
import Derived.Test.YtfpmhmngebnphaaMg1
namespace Vs
open Go

def sgVB : Sig := ⟨[pV], [rv .bool]⟩
def sgVfV : Sig := ⟨[pV, pv f1], [rV]⟩
def sgIII : Sig := ⟨[pv i8, pv i8, pv i8], [rv .bool]⟩
def sgMP : Sig := ⟨[pV, pV, pV, pv i8], [rV, rv .bool]⟩

structure V3 where
  x : Nat
  y : Nat
  z : Nat
def V3.add (a b : V3) : V3 := ⟨fadd .f32 a.x b.x, fadd .f32 a.y b.y, fadd .f32 a.z b.z⟩
def V3.scale (a : V3) (k : Nat) : V3 := ⟨fmul .f32 a.x k, fmul .f32 a.y k, fmul .f32 a.z k⟩
def V3.away (p a : V3) : Nat := awayP p.x p.y p.z a.x a.y a.z
def V3.fin (a : V3) : Bool := finP a.x && finP a.y && finP a.z
def V3.ds (a : V3) : List D := [.flt a.x, .flt a.y, .flt a.z]
def part1 (x : Nat) : Nat := fdiv .f32 1065353216 x

def meetStep (a b c p : V3) : Option V3 :=
  let u := part1 (p.away a)
  let v := part1 (p.away b)
  let w := part1 (p.away c)
  if finP u && finP v && finP w then some ((((a.scale u).add (b.scale v)).add (c.scale w)).scale (part1 (fadd .f32 (fadd .f32 u v) w))) else none
def goN (step : V3 → Option V3) : Nat → V3 → V3
  | 0, p => p
  | n + 1, p => match step p with | some q => goN step n q | none => p
theorem goN_none {step : V3 → Option V3} {p : V3} {k : Nat} (h : step p = none) : goN step (k + 1) p = p := by simp only [goN, h]
theorem goN_some {step : V3 → Option V3} {p q : V3} {k : Nat} (h : step p = some q) : goN step (k + 1) p = goN step k q := by simp only [goN, h]
def meetN (a b c : V3) (n : Nat) (p : V3) : V3 := goN (meetStep a b c) n p
theorem meetN_none {a b c p : V3} {k : Nat} (h : meetStep a b c p = none) : meetN a b c (k + 1) p = p := goN_none h
theorem meetN_some {a b c p q : V3} {k : Nat} (h : meetStep a b c p = some q) : meetN a b c (k + 1) p = meetN a b c k q := goN_some h
def meetP (a b c : V3) (n : Int) : Option V3 :=
  if a.fin && b.fin && c.fin && decide (0 ≤ n) && decide (n ≤ 100) then some (meetN a b c n.toNat (((a.add b).add c).scale 1051372203)) else none

def F18 : List D → Option (List D) | [.flt a, .flt b, .flt c] => some [.bool (V3.fin ⟨a, b, c⟩)] | _ => none
def F19 : List D → Option (List D) | [.int n, .int a, .int b] => some [.bool (decide (a ≤ n) && decide (n ≤ b))] | _ => none
def F30 : List D → Option (List D) | [.flt a, .flt b, .flt c, .flt x, .flt y, .flt z] => some (V3.add ⟨a, b, c⟩ ⟨x, y, z⟩).ds | _ => none
def F31 : List D → Option (List D) | [.flt a, .flt b, .flt c, .flt k] => some (V3.scale ⟨a, b, c⟩ k).ds | _ => none
def F32 : List D → Option (List D)
  | [.flt a, .flt b, .flt c, .flt d, .flt e, .flt f, .flt x, .flt y, .flt z, .int n] =>
    some (match meetP ⟨a, b, c⟩ ⟨d, e, f⟩ ⟨x, y, z⟩ n with | some p => p.ds ++ [.bool true] | none => [.flt 0, .flt 0, .flt 0, .bool false])
  | _ => none

def T18 : T :=
(.call none 1 [(.v 0)] 1 <|
(.op (some ((.v 3), true)) .id [(.v 1)] <|
(.call (some ((.v 3), true)) 1 [(.v 4)] 1 <|
(.op none .pick [(.v 3), (.v 5), (.c (.bool false))] <|
(.op (some ((.v 6), true)) .id [(.v 2)] <|
(.call (some ((.v 6), true)) 1 [(.v 7)] 1 <|
(.op none .pick [(.v 6), (.v 8), (.c (.bool false))] <|
(.out 0 [(.v 9)]))))))))
def T19 : T :=
(.op none (.icm .geq) [(.v 0), (.v 1)] <|
(.op (some ((.v 3), true)) .id [(.v 0)] <|
(.op (some ((.v 3), true)) .id [(.v 2)] <|
(.op (some ((.v 3), true)) (.icm .leq) [(.v 4), (.v 5)] <|
(.op none .pick [(.v 3), (.v 6), (.c (.bool false))] <|
(.out 0 [(.v 7)]))))))
def T30 : T :=
(.op none (.far .add .f32) [(.v 0), (.v 3)] <|
(.op none (.far .add .f32) [(.v 1), (.v 4)] <|
(.op none (.far .add .f32) [(.v 2), (.v 5)] <|
(.out 0 [(.v 6), (.v 7), (.v 8)]))))
def T31 : T :=
(.op none (.far .mul .f32) [(.v 0), (.v 3)] <|
(.op none (.far .mul .f32) [(.v 1), (.v 3)] <|
(.op none (.far .mul .f32) [(.v 2), (.v 3)] <|
(.out 0 [(.v 4), (.v 5), (.v 6)]))))

theorem run18 {G : Told} (g1 : G 1 = F1) : ∀ ds rs, F18 ds = some rs → ∃ fuel, run G fuel T18 ds = some (0, rs) := by
  intro ds rs h
  simp only [F18] at h
  split at h <;> simp only [Option.some.injEq, reduceCtorEq] at h
  subst h
  rename_i a b c
  refine ⟨0, ?_⟩
  cases h1 : finP a <;> cases h2 : finP b <;> cases h3 : finP c <;> simp [T18, run, Guard.ok, evs, Atom.ev, Prim.ev, g1, F1, V3.fin, h1, h2, h3]
theorem run19 {G : Told} : ∀ ds rs, F19 ds = some rs → ∃ fuel, run G fuel T19 ds = some (0, rs) := by
  intro ds rs h
  simp only [F19] at h
  split at h <;> simp only [Option.some.injEq, reduceCtorEq] at h
  subst h
  rename_i n a b
  refine ⟨0, ?_⟩
  by_cases h1 : a ≤ n <;> simp [T19, run, Guard.ok, evs, Atom.ev, Prim.ev, icmp, h1]
theorem run30 {G : Told} : ∀ ds rs, F30 ds = some rs → ∃ fuel, run G fuel T30 ds = some (0, rs) := by
  intro ds rs h
  simp only [F30] at h
  split at h <;> simp only [Option.some.injEq, reduceCtorEq] at h
  subst h
  exact ⟨0, by simp [T30, run, Guard.ok, evs, Atom.ev, Prim.ev, farith, V3.add, V3.ds]⟩
theorem run31 {G : Told} : ∀ ds rs, F31 ds = some rs → ∃ fuel, run G fuel T31 ds = some (0, rs) := by
  intro ds rs h
  simp only [F31] at h
  split at h <;> simp only [Option.some.injEq, reduceCtorEq] at h
  subst h
  exact ⟨0, by simp [T31, run, Guard.ok, evs, Atom.ev, Prim.ev, farith, V3.scale, V3.ds]⟩

theorem wrap_small {i : Int} (h0 : 0 ≤ i) (h1 : i ≤ 1000000) : IntKind.wrap .i64 i = i := by
  simp only [IntKind.wrap, IntKind.bits, IntKind.signed]
  have : i % 2 ^ 64 = i := Int.emod_eq_of_lt h0 (by omega)
  simp only [this]
  split
  · rename_i h
    simp at h
    omega
  · rfl

attribute [local irreducible] fadd fsub fmul fdiv finP feq flt fle rootP longP innerP
set_option maxHeartbeats 4000000 in
theorem step32 {G : Told} (g1 : G 1 = F1) (g13 : G 13 = F13) (g15 : G 15 = F15) (g30 : G 30 = F30) (g31 : G 31 = F31) (a b c p : V3) (n i : Int) :
    tbody 4 (S32L0 G (.flt a.x) (.flt a.y) (.flt a.z) (.flt b.x) (.flt b.y) (.flt b.z) (.flt c.x) (.flt c.y) (.flt c.z) (.int n)) [.flt p.x, .flt p.y, .flt p.z, .int i] = some (if i < n then (match meetStep a b c p with
      | some q => (0, [.flt q.x, .flt q.y, .flt q.z, .int (IntKind.wrap .i64 (i + 1))])
      | none => (1, [.flt p.x, .flt p.y, .flt p.z] ++ [.int i] ++ [.bool true])) else (1, [.flt p.x, .flt p.y, .flt p.z] ++ [.int i] ++ [.bool false])) := by
  refine (if_pos rfl).trans ?_
  by_cases hi : i < n
  · have hi' : decide (i < n) = true := by simpa using hi
    rw [if_pos hi]
    unfold S32L0
    have e1 : part1 (p.away a) = fdiv .f32 1065353216 (longP (fsub .f32 p.x a.x) (fsub .f32 p.y a.y) (fsub .f32 p.z a.z)) := rfl
    have e2 : part1 (p.away b) = fdiv .f32 1065353216 (longP (fsub .f32 p.x b.x) (fsub .f32 p.y b.y) (fsub .f32 p.z b.z)) := rfl
    have e3 : part1 (p.away c) = fdiv .f32 1065353216 (longP (fsub .f32 p.x c.x) (fsub .f32 p.y c.y) (fsub .f32 p.z c.z)) := rfl
    cases h1 : finP (fdiv .f32 1065353216 (longP (fsub .f32 p.x a.x) (fsub .f32 p.y a.y) (fsub .f32 p.z a.z))) <;> cases h2 : finP (fdiv .f32 1065353216 (longP (fsub .f32 p.x b.x) (fsub .f32 p.y b.y) (fsub .f32 p.z b.z))) <;>
      cases h3 : finP (fdiv .f32 1065353216 (longP (fsub .f32 p.x c.x) (fsub .f32 p.y c.y) (fsub .f32 p.z c.z))) <;> (
      simp only [meetStep, e1, e2, e3, h1, h2, h3]
      repeat' first
      | (apply st_callt; assumption; exact rfl; exact rfl; assumption)
      | (apply st_callf; assumption; exact rfl; exact rfl; assumption)
      | (apply st_call; assumption; exact rfl; exact rfl; exact rfl)
      | (apply st_skip; exact rfl)
      | (apply st_t; exact rfl; exact rfl)
      | (apply st_f; exact rfl; exact rfl)
      | (apply st_t; exact rfl; assumption)
      | (apply st_f; exact rfl; assumption)
      | (apply st_some; exact rfl)
      | refine st_ift ?_
      | refine st_iff ?_
      | exact rfl)
  · have hi' : decide (i < n) = false := by simpa using hi
    rw [if_neg hi]
    unfold S32L0
    repeat' first
      | (apply st_callt; assumption; exact rfl; exact rfl; assumption)
      | (apply st_callf; assumption; exact rfl; exact rfl; assumption)
      | (apply st_call; assumption; exact rfl; exact rfl; exact rfl)
      | (apply st_skip; exact rfl)
      | (apply st_t; exact rfl; exact rfl)
      | (apply st_f; exact rfl; exact rfl)
      | (apply st_t; exact rfl; assumption)
      | (apply st_f; exact rfl; assumption)
      | (apply st_some; exact rfl)
      | refine st_ift ?_
      | refine st_iff ?_
      | exact rfl

set_option maxHeartbeats 4000000 in
theorem step32s {G : Told} (g1 : G 1 = F1) (g13 : G 13 = F13) (g15 : G 15 = F15) (g30 : G 30 = F30) (g31 : G 31 = F31) (a b c p : V3) (n i : Int) :
    tbody 4 (S32sL0 G (.flt a.x) (.flt a.y) (.flt a.z) (.flt b.x) (.flt b.y) (.flt b.z) (.flt c.x) (.flt c.y) (.flt c.z) (.int n)) [.flt p.x, .flt p.y, .flt p.z, .int i] = some (if i < n then (match meetStep a b c p with
      | some q => (0, [.flt q.x, .flt q.y, .flt q.z, .int (IntKind.wrap .i64 (i + 1))])
      | none => (1, [.flt p.x, .flt p.y, .flt p.z] ++ [.int i, .int i, .int n] ++ [.bool true])) else (1, [.flt p.x, .flt p.y, .flt p.z] ++ [.int i, .int i, .int n] ++ [.bool false])) := by
  refine (if_pos rfl).trans ?_
  by_cases hi : i < n
  · have hi' : decide (i < n) = true := by simpa using hi
    rw [if_pos hi]
    unfold S32sL0
    have e1 : part1 (p.away a) = fdiv .f32 1065353216 (longP (fsub .f32 p.x a.x) (fsub .f32 p.y a.y) (fsub .f32 p.z a.z)) := rfl
    have e2 : part1 (p.away b) = fdiv .f32 1065353216 (longP (fsub .f32 p.x b.x) (fsub .f32 p.y b.y) (fsub .f32 p.z b.z)) := rfl
    have e3 : part1 (p.away c) = fdiv .f32 1065353216 (longP (fsub .f32 p.x c.x) (fsub .f32 p.y c.y) (fsub .f32 p.z c.z)) := rfl
    cases h1 : finP (fdiv .f32 1065353216 (longP (fsub .f32 p.x a.x) (fsub .f32 p.y a.y) (fsub .f32 p.z a.z))) <;> cases h2 : finP (fdiv .f32 1065353216 (longP (fsub .f32 p.x b.x) (fsub .f32 p.y b.y) (fsub .f32 p.z b.z))) <;>
      cases h3 : finP (fdiv .f32 1065353216 (longP (fsub .f32 p.x c.x) (fsub .f32 p.y c.y) (fsub .f32 p.z c.z))) <;> (
      simp only [meetStep, e1, e2, e3, h1, h2, h3]
      repeat' first
      | (apply st_callt; assumption; exact rfl; exact rfl; assumption)
      | (apply st_callf; assumption; exact rfl; exact rfl; assumption)
      | (apply st_call; assumption; exact rfl; exact rfl; exact rfl)
      | (apply st_skip; exact rfl)
      | (apply st_t; exact rfl; exact rfl)
      | (apply st_f; exact rfl; exact rfl)
      | (apply st_t; exact rfl; assumption)
      | (apply st_f; exact rfl; assumption)
      | (apply st_some; exact rfl)
      | refine st_ift ?_
      | refine st_iff ?_
      | exact rfl)
  · have hi' : decide (i < n) = false := by simpa using hi
    rw [if_neg hi]
    unfold S32sL0
    repeat' first
      | (apply st_callt; assumption; exact rfl; exact rfl; assumption)
      | (apply st_callf; assumption; exact rfl; exact rfl; assumption)
      | (apply st_call; assumption; exact rfl; exact rfl; exact rfl)
      | (apply st_skip; exact rfl)
      | (apply st_t; exact rfl; exact rfl)
      | (apply st_f; exact rfl; exact rfl)
      | (apply st_t; exact rfl; assumption)
      | (apply st_f; exact rfl; assumption)
      | (apply st_some; exact rfl)
      | refine st_ift ?_
      | refine st_iff ?_
      | exact rfl

/-- The rounds. -/
theorem rounds32 {step : List D → Option (Nat × List D)} {a b c : V3} {n : Int} {rest : Int → List D} (hn : n ≤ 100)
    (hs : ∀ p i, step [.flt p.x, .flt p.y, .flt p.z, .int i] = some (if i < n then (match meetStep a b c p with
      | some q => (0, [.flt q.x, .flt q.y, .flt q.z, .int (IntKind.wrap .i64 (i + 1))])
      | none => (1, [.flt p.x, .flt p.y, .flt p.z] ++ rest i ++ [.bool true])) else (1, [.flt p.x, .flt p.y, .flt p.z] ++ rest i ++ [.bool false]))) :
    ∀ (k : Nat) (p : V3) (i : Int), 0 ≤ i → (n - i).toNat = k → ∃ j w, iter step (k + 1) [.flt p.x, .flt p.y, .flt p.z, .int i] = some (0, [.flt (meetN a b c k p).x, .flt (meetN a b c k p).y, .flt (meetN a b c k p).z] ++ rest j ++ [.bool w])
  | 0, p, i, h0, hk => by
    have : ¬ i < n := by omega
    refine ⟨i, false, iter_end (l := 0) (ds' := [.flt p.x, .flt p.y, .flt p.z] ++ rest i ++ [.bool false]) ?_ rfl⟩
    rw [hs, if_neg this]
  | k + 1, p, i, h0, hk => by
    have : i < n := by omega
    cases hm : meetStep a b c p with
    | none =>
      refine ⟨i, true, iter_end (l := 0) (ds' := [.flt p.x, .flt p.y, .flt p.z] ++ rest i ++ [.bool true]) ?_ ?_⟩
      · rw [hs, if_pos this, hm]
      · rw [meetN_none hm]
    | some q =>
      obtain ⟨j, w, hj⟩ := rounds32 hn hs k q (i + 1) (by omega) (by omega)
      refine ⟨j, w, iter_go (ds' := [.flt q.x, .flt q.y, .flt q.z, .int (i + 1)]) ?_ ?_⟩
      · rw [hs, if_pos this, hm]
        dsimp only
        rw [wrap_small (by omega) (by omega)]
      · rw [hj, meetN_some hm]

set_option maxHeartbeats 4000000 in
theorem run32 {G : Told} (g1 : G 1 = F1) (g13 : G 13 = F13) (g15 : G 15 = F15) (g18 : G 18 = F18) (g19 : G 19 = F19) (g30 : G 30 = F30) (g31 : G 31 = F31) : ∀ ds rs, F32 ds = some rs → ∃ fuel, run G fuel T32 ds = some (0, rs) := by
  intro ds rs h
  simp only [F32] at h
  split at h <;> simp only [Option.some.injEq, reduceCtorEq] at h
  subst h
  rename_i a b c d e f x y z n
  refine ⟨n.toNat + 1, ?_⟩
  rw [eq32]
  unfold S32 meetP
  cases h1 : V3.fin ⟨a, b, c⟩
  · repeat' first
      | (apply st_callt; assumption; exact rfl; exact rfl; assumption)
      | (apply st_callf; assumption; exact rfl; exact rfl; assumption)
      | (apply st_call; assumption; exact rfl; exact rfl; exact rfl)
      | (apply st_skip; exact rfl)
      | (apply st_t; exact rfl; exact rfl)
      | (apply st_f; exact rfl; exact rfl)
      | (apply st_t; exact rfl; assumption)
      | (apply st_f; exact rfl; assumption)
      | (apply st_some; exact rfl)
      | refine st_ift ?_
      | refine st_iff ?_
      | exact rfl
  cases h2 : V3.fin ⟨d, e, f⟩
  · repeat' first
      | (apply st_callt; assumption; exact rfl; exact rfl; assumption)
      | (apply st_callf; assumption; exact rfl; exact rfl; assumption)
      | (apply st_call; assumption; exact rfl; exact rfl; exact rfl)
      | (apply st_skip; exact rfl)
      | (apply st_t; exact rfl; exact rfl)
      | (apply st_f; exact rfl; exact rfl)
      | (apply st_t; exact rfl; assumption)
      | (apply st_f; exact rfl; assumption)
      | (apply st_some; exact rfl)
      | refine st_ift ?_
      | refine st_iff ?_
      | exact rfl
  cases h3 : V3.fin ⟨x, y, z⟩
  · repeat' first
      | (apply st_callt; assumption; exact rfl; exact rfl; assumption)
      | (apply st_callf; assumption; exact rfl; exact rfl; assumption)
      | (apply st_call; assumption; exact rfl; exact rfl; exact rfl)
      | (apply st_skip; exact rfl)
      | (apply st_t; exact rfl; exact rfl)
      | (apply st_f; exact rfl; exact rfl)
      | (apply st_t; exact rfl; assumption)
      | (apply st_f; exact rfl; assumption)
      | (apply st_some; exact rfl)
      | refine st_ift ?_
      | refine st_iff ?_
      | exact rfl
  cases h4 : (decide (0 ≤ n) && decide (n ≤ 100))
  · have h5 : (true && true && true && decide (0 ≤ n) && decide (n ≤ 100)) = false := by simpa using h4
    rw [h5]
    repeat' first
      | (apply st_callt; assumption; exact rfl; exact rfl; assumption)
      | (apply st_callf; assumption; exact rfl; exact rfl; assumption)
      | (apply st_call; assumption; exact rfl; exact rfl; exact rfl)
      | (apply st_skip; exact rfl)
      | (apply st_t; exact rfl; exact rfl)
      | (apply st_f; exact rfl; exact rfl)
      | (apply st_t; exact rfl; assumption)
      | (apply st_f; exact rfl; assumption)
      | (apply st_some; exact rfl)
      | refine st_ift ?_
      | refine st_iff ?_
      | exact rfl
  · have h5 : (true && true && true && decide (0 ≤ n) && decide (n ≤ 100)) = true := by simpa using h4
    have h6 : 0 ≤ n ∧ n ≤ 100 := by simpa using h4
    rw [h5]
    obtain ⟨j, w, hj⟩ := rounds32 (a := ⟨a, b, c⟩) (b := ⟨d, e, f⟩) (c := ⟨x, y, z⟩) (rest := fun i => [.int i]) h6.2 (fun p i => step32 g1 g13 g15 g30 g31 ⟨a, b, c⟩ ⟨d, e, f⟩ ⟨x, y, z⟩ p n i) n.toNat (V3.scale (V3.add (V3.add ⟨a, b, c⟩ ⟨d, e, f⟩) ⟨x, y, z⟩) 1051372203) 0 (by omega) (by simp)
    repeat' first
      | (apply st_callt; assumption; exact rfl; exact rfl; assumption)
      | (apply st_callf; assumption; exact rfl; exact rfl; assumption)
      | (apply st_call; assumption; exact rfl; exact rfl; exact rfl)
      | (apply st_skip; exact rfl)
      | (apply st_t; exact rfl; exact rfl)
      | (apply st_f; exact rfl; exact rfl)
      | (apply st_t; exact rfl; assumption)
      | (apply st_f; exact rfl; assumption)
      | (apply st_some; exact rfl)
      | refine st_ift ?_
      | refine st_iff ?_
      | exact rfl
    refine st_join hj rfl ?_
    exact rfl

set_option maxHeartbeats 4000000 in
theorem run32s {G : Told} (g1 : G 1 = F1) (g13 : G 13 = F13) (g15 : G 15 = F15) (g18 : G 18 = F18) (g19 : G 19 = F19) (g30 : G 30 = F30) (g31 : G 31 = F31) : ∀ ds rs, F32 ds = some rs → ∃ fuel, run G fuel T32s ds = some (0, rs) := by
  intro ds rs h
  simp only [F32] at h
  split at h <;> simp only [Option.some.injEq, reduceCtorEq] at h
  subst h
  rename_i a b c d e f x y z n
  refine ⟨n.toNat + 1, ?_⟩
  rw [eq32s]
  unfold S32s meetP
  cases h1 : V3.fin ⟨a, b, c⟩
  · repeat' first
      | (apply st_callt; assumption; exact rfl; exact rfl; assumption)
      | (apply st_callf; assumption; exact rfl; exact rfl; assumption)
      | (apply st_call; assumption; exact rfl; exact rfl; exact rfl)
      | (apply st_skip; exact rfl)
      | (apply st_t; exact rfl; exact rfl)
      | (apply st_f; exact rfl; exact rfl)
      | (apply st_t; exact rfl; assumption)
      | (apply st_f; exact rfl; assumption)
      | (apply st_some; exact rfl)
      | refine st_ift ?_
      | refine st_iff ?_
      | exact rfl
  cases h2 : V3.fin ⟨d, e, f⟩
  · repeat' first
      | (apply st_callt; assumption; exact rfl; exact rfl; assumption)
      | (apply st_callf; assumption; exact rfl; exact rfl; assumption)
      | (apply st_call; assumption; exact rfl; exact rfl; exact rfl)
      | (apply st_skip; exact rfl)
      | (apply st_t; exact rfl; exact rfl)
      | (apply st_f; exact rfl; exact rfl)
      | (apply st_t; exact rfl; assumption)
      | (apply st_f; exact rfl; assumption)
      | (apply st_some; exact rfl)
      | refine st_ift ?_
      | refine st_iff ?_
      | exact rfl
  cases h3 : V3.fin ⟨x, y, z⟩
  · repeat' first
      | (apply st_callt; assumption; exact rfl; exact rfl; assumption)
      | (apply st_callf; assumption; exact rfl; exact rfl; assumption)
      | (apply st_call; assumption; exact rfl; exact rfl; exact rfl)
      | (apply st_skip; exact rfl)
      | (apply st_t; exact rfl; exact rfl)
      | (apply st_f; exact rfl; exact rfl)
      | (apply st_t; exact rfl; assumption)
      | (apply st_f; exact rfl; assumption)
      | (apply st_some; exact rfl)
      | refine st_ift ?_
      | refine st_iff ?_
      | exact rfl
  cases h4 : (decide (0 ≤ n) && decide (n ≤ 100))
  · have h5 : (true && true && true && decide (0 ≤ n) && decide (n ≤ 100)) = false := by simpa using h4
    rw [h5]
    repeat' first
      | (apply st_callt; assumption; exact rfl; exact rfl; assumption)
      | (apply st_callf; assumption; exact rfl; exact rfl; assumption)
      | (apply st_call; assumption; exact rfl; exact rfl; exact rfl)
      | (apply st_skip; exact rfl)
      | (apply st_t; exact rfl; exact rfl)
      | (apply st_f; exact rfl; exact rfl)
      | (apply st_t; exact rfl; assumption)
      | (apply st_f; exact rfl; assumption)
      | (apply st_some; exact rfl)
      | refine st_ift ?_
      | refine st_iff ?_
      | exact rfl
  · have h5 : (true && true && true && decide (0 ≤ n) && decide (n ≤ 100)) = true := by simpa using h4
    have h6 : 0 ≤ n ∧ n ≤ 100 := by simpa using h4
    rw [h5]
    obtain ⟨j, w, hj⟩ := rounds32 (a := ⟨a, b, c⟩) (b := ⟨d, e, f⟩) (c := ⟨x, y, z⟩) (rest := fun i => [.int i, .int i, .int n]) h6.2 (fun p i => step32s g1 g13 g15 g30 g31 ⟨a, b, c⟩ ⟨d, e, f⟩ ⟨x, y, z⟩ p n i) n.toNat (V3.scale (V3.add (V3.add ⟨a, b, c⟩ ⟨d, e, f⟩) ⟨x, y, z⟩) 1051372203) 0 (by omega) (by simp)
    repeat' first
      | (apply st_callt; assumption; exact rfl; exact rfl; assumption)
      | (apply st_callf; assumption; exact rfl; exact rfl; assumption)
      | (apply st_call; assumption; exact rfl; exact rfl; exact rfl)
      | (apply st_skip; exact rfl)
      | (apply st_t; exact rfl; exact rfl)
      | (apply st_f; exact rfl; exact rfl)
      | (apply st_t; exact rfl; assumption)
      | (apply st_f; exact rfl; assumption)
      | (apply st_some; exact rfl)
      | refine st_ift ?_
      | refine st_iff ?_
      | exact rfl
    refine st_join hj rfl ?_
    exact rfl

end Vs
