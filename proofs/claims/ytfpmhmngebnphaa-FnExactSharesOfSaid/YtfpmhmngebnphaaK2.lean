/-
  Shares of a count: what the functions compute, and the law.
-/
import Derived.Test.YtfpmhmngebnphaaK1
namespace Vs
open Go

def F19 : List D → Option (List D) | [.int n, .int a, .int b] => some [.bool (decide (a ≤ n) && decide (n ≤ b))] | _ => none

/-! ### What a law asks of rows of whole numbers -/
structure SSok (l : List D) : Prop where
  isL : l.all isL = true
  one : ∀ x ∈ l, F100 [x, x] = some [.bool true]
  tot : (tot (l.map unL) : Int) < 1000000000000
  len : (l.length : Int) < 1000000000000
theorem F100_self {a : List D} (h : a.all isI = true) (hl : (a.length : Int) < 4611686018427387904) : F100 [.lst a, .lst a] = some [.bool true] := by
  simp only [F100]
  rw [if_pos ⟨trivial, h, hl⟩]
theorem SSok.f101 {l : List D} (h : SSok l) : F101 [.lst l, .lst l] = some [.bool true] := by
  simp only [F101]
  have := h.len
  rw [if_pos ⟨rfl, h.one, by omega⟩]
theorem SSok.f103 {l : List D} (h : SSok l) : F103 [.lst l, .int 1] = some [.int (1 + Vs.tot (l.map unL)), .lst ((mks 1 (l.map unL)).map D.lst)] := by
  simp only [F103]
  have h1 := h.len
  have h2 := h.tot
  rw [if_pos ⟨h.isL, by omega, by omega, by omega⟩]
theorem map_unL (l : List (List D)) : (l.map D.lst).map unL = l := by
  rw [List.map_map]
  exact List.map_id'' (fun _ => rfl) l
theorem SSok.f105 {l : List D} (h : SSok l) : F105 [.lst ((mks 1 (l.map unL)).map D.lst), .int 1] = some [.int (1 + Vs.tot (l.map unL))] := by
  have e := map_unL (mks 1 (l.map unL))
  have h1 := h.len
  have h2 := h.tot
  simp only [F105]
  rw [if_pos ⟨by simp [Vs.isL], by rw [e, mks_idem], by omega, by rw [e, tot_mks]; omega, by simp [mks_length]; omega⟩, e, tot_mks]

/-! ### Shares -/
def shW (a b i : Int) : Int := if i < a.tmod b then IntKind.wrap .i64 (IntKind.wrap .i64 (a.tdiv b) + 1) else IntKind.wrap .i64 (a.tdiv b)
def shares (a b : Int) : Nat → Int → Int → List D
  | 0, _, _ => []
  | n + 1, i, p => .lst [.int p, .int (shW a b i)] :: shares a b n (i + 1) (IntKind.wrap .i64 (p + shW a b i))
theorem shares_ok (a b : Int) : ∀ (n : Nat) (i p : Int), (shares a b n i p).all isL = true ∧ (∀ x ∈ shares a b n i p, F100 [x, x] = some [.bool true]) ∧ tot ((shares a b n i p).map unL) = 2 * n ∧ (shares a b n i p).length = n
  | 0, _, _ => by simp [shares, tot]
  | n + 1, i, p => by
    obtain ⟨h1, h2, h3, h4⟩ := shares_ok a b n (i + 1) (IntKind.wrap .i64 (p + shW a b i))
    refine ⟨?_, ?_, ?_, ?_⟩
    · simp [shares, isL, h1]
    · intro x hx
      simp only [shares, List.mem_cons] at hx
      rcases hx with rfl | hx
      · exact F100_self rfl (by simp)
      · exact h2 x hx
    · simp only [shares, List.map_cons, unL, tot, h3, List.length_cons, List.length_nil]; omega
    · simp [shares, h4]
def inB (lo hi n : Int) : Bool := decide (lo ≤ n) && decide (n ≤ hi)
def F106 : List D → Option (List D) | [.int a, .int b] => if inB 1 8 b then some [.lst (shares a b b.toNat 0 0)] else none | _ => none
def F107 : List D → Option (List D) | [.int a, .int b] => some (if inB 0 256 a && inB 1 8 b then [.lst (shares a b b.toNat 0 0), .bool true] else [.lst [], .bool false]) | _ => none
def F108 : List D → Option (List D) | [.int _, .int _] => some [.bool true] | _ => none

def T19 : T :=
(.op none (.icm .geq) [(.v 0), (.v 1)] <|
(.op (some ((.v 3), true)) .id [(.v 0)] <|
(.op (some ((.v 3), true)) .id [(.v 2)] <|
(.op (some ((.v 3), true)) (.icm .leq) [(.v 4), (.v 5)] <|
(.op none .pick [(.v 3), (.v 6), (.c (.bool false))] <|
(.out 0 [(.v 7)]))))))
def S19 (_G : Told) (_fuel : Nat) (x0 x1 x2 : D) : Option (Nat × List D) :=
  (gev none (.icm .geq) [x0, x1]).bind fun x3 =>
  (gev (some (x3, true)) .id [x0]).bind fun x4 =>
  (gev (some (x3, true)) .id [x2]).bind fun x5 =>
  (gev (some (x3, true)) (.icm .leq) [x4, x5]).bind fun x6 =>
  (gev none .pick [x3, x6, (.bool false)]).bind fun x7 =>
  some (0, [x7])
theorem eq19 {G : Told} {fuel : Nat} (x0 x1 x2 : D) : run G fuel T19 [x0, x1, x2] = S19 G fuel x0 x1 x2 := by
  rw [run_eq]; kernel_rfl

def T106 : T :=
(.op none .mklst [] <|
(.join 4
  (.loop [(.v 2), (.c (.int 0)), (.c (.int 0))]
    (.op none (.icm .lss) [(.v 5), (.v 1)] <|
    (.ite (.v 6)
      (.op none (.idv .quo .i64) [(.v 0), (.v 1)] <|
      (.op none (.idv .rem .i64) [(.v 0), (.v 1)] <|
      (.op none (.icm .lss) [(.v 5), (.v 8)] <|
      (.join 1
        (.ite (.v 9)
          (.op none (.iar .add .i64) [(.v 7), (.c (.int 1))] <|
          (.out 0 [(.v 10)]))
          (.out 0 [(.v 7)]))
      (.op none .mklst [(.v 4), (.v 10)] <|
      (.op none .mklst [(.v 11)] <|
      (.op none .app [(.v 3), (.v 12)] <|
      (.op none (.iar .add .i64) [(.v 4), (.v 10)] <|
      (.op none (.iar .add .i64) [(.v 5), (.c (.int 1))] <|
      (.out 0 [(.v 13), (.v 14), (.v 15)]))))))))))
      (.out 1 [(.v 3), (.v 4), (.v 5), (.v 6)]))))
(.out 0 [(.v 3)])))
def S106L0 (_G : Told) (x0 : D) (x1 : D) : List D → Option (Nat × List D) := fun e3 =>
      (gev none (.icm .lss) [(e3.getD 2 .undef), x1]).bind fun x6 =>
      tif x6 (
        (gev none (.idv .quo .i64) [x0, x1]).bind fun x7 =>
        (gev none (.idv .rem .i64) [x0, x1]).bind fun x8 =>
        (gev none (.icm .lss) [(e3.getD 2 .undef), x8]).bind fun x9 =>
        tjoin 1 (
          tif x9 (
            (gev none (.iar .add .i64) [x7, (.int 1)]).bind fun x10 =>
            some (0, [x10])) (
            some (0, [x7]))) fun e10 =>
        (gev none .mklst [(e3.getD 1 .undef), (e10.getD 0 .undef)]).bind fun x11 =>
        (gev none .mklst [x11]).bind fun x12 =>
        (gev none .app [(e3.getD 0 .undef), x12]).bind fun x13 =>
        (gev none (.iar .add .i64) [(e3.getD 1 .undef), (e10.getD 0 .undef)]).bind fun x14 =>
        (gev none (.iar .add .i64) [(e3.getD 2 .undef), (.int 1)]).bind fun x15 =>
        some (0, [x13, x14, x15])) (
        some (1, [(e3.getD 0 .undef), (e3.getD 1 .undef), (e3.getD 2 .undef), x6]))
def S106 (G : Told) (fuel : Nat) (x0 x1 : D) : Option (Nat × List D) :=
  (gev none .mklst []).bind fun x2 =>
  tjoin 4 (
    iter (tbody 3 (S106L0 G x0 x1)) fuel [x2, (.int 0), (.int 0)]) fun e3 =>
  some (0, [(e3.getD 0 .undef)])
theorem eq106 {G : Told} {fuel : Nat} (x0 x1 : D) : run G fuel T106 [x0, x1] = S106 G fuel x0 x1 := by
  rw [run_eq]; kernel_rfl

def T107 : T :=
(.call none 19 [(.v 0), (.c (.int 0)), (.c (.int 256))] 1 <|
(.op none .bnot [(.v 2)] <|
(.op (some ((.v 3), false)) .id [(.v 1)] <|
(.call (some ((.v 3), false)) 19 [(.v 4), (.c (.int 1)), (.c (.int 8))] 1 <|
(.op (some ((.v 3), false)) .bnot [(.v 5)] <|
(.op none .pick [(.v 3), (.c (.bool true)), (.v 6)] <|
(.ite (.v 7)
  (.out 0 [(.c (.lst [])), (.c (.bool false))])
  (.call none 106 [(.v 0), (.v 1)] 1 <|
  (.out 0 [(.v 8), (.c (.bool true))])))))))))
def S107 (G : Told) (_fuel : Nat) (x0 x1 : D) : Option (Nat × List D) :=
  (gcall G none 19 [x0, (.int 0), (.int 256)] 1).bind fun e2 =>
  (gev none .bnot [(e2.getD 0 .undef)]).bind fun x3 =>
  (gev (some (x3, false)) .id [x1]).bind fun x4 =>
  (gcall G (some (x3, false)) 19 [x4, (.int 1), (.int 8)] 1).bind fun e5 =>
  (gev (some (x3, false)) .bnot [(e5.getD 0 .undef)]).bind fun x6 =>
  (gev none .pick [x3, (.bool true), x6]).bind fun x7 =>
  tif x7 (
    some (0, [(.lst []), (.bool false)])) (
    (gcall G none 106 [x0, x1] 1).bind fun e8 =>
    some (0, [(e8.getD 0 .undef), (.bool true)]))
theorem eq107 {G : Told} {fuel : Nat} (x0 x1 : D) : run G fuel T107 [x0, x1] = S107 G fuel x0 x1 := by
  rw [run_eq]; kernel_rfl

def T107s : T :=
(.call none 19 [(.v 0), (.c (.int 0)), (.c (.int 256))] 1 <|
(.op none .bnot [(.v 2)] <|
(.op (some ((.v 3), false)) .id [(.v 1)] <|
(.call (some ((.v 3), false)) 19 [(.v 4), (.c (.int 1)), (.c (.int 8))] 1 <|
(.op (some ((.v 3), false)) .bnot [(.v 5)] <|
(.op none .pick [(.v 3), (.c (.bool true)), (.v 6)] <|
(.ite (.v 7)
  (.out 0 [(.c (.lst [])), (.c (.bool false))])
  (.op none .mklst [] <|
  (.join 5
    (.loop [(.v 8), (.c (.int 0)), (.c (.int 0))]
      (.op none (.icm .lss) [(.v 11), (.v 1)] <|
      (.ite (.v 12)
        (.op none (.idv .quo .i64) [(.v 0), (.v 1)] <|
        (.op none (.idv .rem .i64) [(.v 0), (.v 1)] <|
        (.op none (.icm .lss) [(.v 11), (.v 14)] <|
        (.join 1
          (.ite (.v 15)
            (.op none (.iar .add .i64) [(.v 13), (.c (.int 1))] <|
            (.out 0 [(.v 16)]))
            (.out 0 [(.v 13)]))
        (.op none .mklst [(.v 10), (.v 16)] <|
        (.op none .mklst [(.v 17)] <|
        (.op none .app [(.v 9), (.v 18)] <|
        (.op none (.iar .add .i64) [(.v 10), (.v 16)] <|
        (.op none (.iar .add .i64) [(.v 11), (.c (.int 1))] <|
        (.out 0 [(.v 19), (.v 20), (.v 21)]))))))))))
        (.out 1 [(.v 9), (.v 10), (.v 11), (.v 11), (.v 12)]))))
  (.out 0 [(.v 9), (.c (.bool true))]))))))))))
def S107sL0 (_G : Told) (x0 : D) (x1 : D) : List D → Option (Nat × List D) := fun e9 =>
        (gev none (.icm .lss) [(e9.getD 2 .undef), x1]).bind fun x12 =>
        tif x12 (
          (gev none (.idv .quo .i64) [x0, x1]).bind fun x13 =>
          (gev none (.idv .rem .i64) [x0, x1]).bind fun x14 =>
          (gev none (.icm .lss) [(e9.getD 2 .undef), x14]).bind fun x15 =>
          tjoin 1 (
            tif x15 (
              (gev none (.iar .add .i64) [x13, (.int 1)]).bind fun x16 =>
              some (0, [x16])) (
              some (0, [x13]))) fun e16 =>
          (gev none .mklst [(e9.getD 1 .undef), (e16.getD 0 .undef)]).bind fun x17 =>
          (gev none .mklst [x17]).bind fun x18 =>
          (gev none .app [(e9.getD 0 .undef), x18]).bind fun x19 =>
          (gev none (.iar .add .i64) [(e9.getD 1 .undef), (e16.getD 0 .undef)]).bind fun x20 =>
          (gev none (.iar .add .i64) [(e9.getD 2 .undef), (.int 1)]).bind fun x21 =>
          some (0, [x19, x20, x21])) (
          some (1, [(e9.getD 0 .undef), (e9.getD 1 .undef), (e9.getD 2 .undef), (e9.getD 2 .undef), x12]))
def S107s (G : Told) (fuel : Nat) (x0 x1 : D) : Option (Nat × List D) :=
  (gcall G none 19 [x0, (.int 0), (.int 256)] 1).bind fun e2 =>
  (gev none .bnot [(e2.getD 0 .undef)]).bind fun x3 =>
  (gev (some (x3, false)) .id [x1]).bind fun x4 =>
  (gcall G (some (x3, false)) 19 [x4, (.int 1), (.int 8)] 1).bind fun e5 =>
  (gev (some (x3, false)) .bnot [(e5.getD 0 .undef)]).bind fun x6 =>
  (gev none .pick [x3, (.bool true), x6]).bind fun x7 =>
  tif x7 (
    some (0, [(.lst []), (.bool false)])) (
    (gev none .mklst []).bind fun x8 =>
    tjoin 5 (
      iter (tbody 3 (S107sL0 G x0 x1)) fuel [x8, (.int 0), (.int 0)]) fun e9 =>
    some (0, [(e9.getD 0 .undef), (.bool true)]))
theorem eq107s {G : Told} {fuel : Nat} (x0 x1 : D) : run G fuel T107s [x0, x1] = S107s G fuel x0 x1 := by
  rw [run_eq]; kernel_rfl

def T108 : T :=
(.call none 107 [(.v 0), (.v 1)] 2 <|
(.call none 107 [(.v 0), (.v 1)] 2 <|
(.call none 101 [(.v 4), (.v 2)] 1 <|
(.op none .bnot [(.v 6)] <|
(.op (some ((.v 7), false)) .id [(.v 5)] <|
(.op (some ((.v 7), false)) .id [(.v 3)] <|
(.op (some ((.v 7), false)) .bne [(.v 8), (.v 9)] <|
(.op none .pick [(.v 7), (.c (.bool true)), (.v 10)] <|
(.ite (.v 11)
  (.out 0 [(.c (.bool false))])
  (.call none 103 [(.v 4), (.c (.int 1))] 2 <|
  (.call none 105 [(.v 13), (.c (.int 1))] 1 <|
  (.op none (.icm .lss) [(.v 14), (.c (.int 0))] <|
  (.ite (.v 15)
    (.out 0 [(.c (.bool false))])
    (.op none (.icm .neq) [(.v 14), (.v 12)] <|
    (.ite (.v 16)
      (.out 0 [(.c (.bool false))])
      (.call none 107 [(.v 0), (.v 1)] 2 <|
      (.call none 101 [(.v 17), (.v 2)] 1 <|
      (.op none .bnot [(.v 19)] <|
      (.op (some ((.v 20), false)) .id [(.v 18)] <|
      (.op (some ((.v 20), false)) .id [(.v 3)] <|
      (.op (some ((.v 20), false)) .bne [(.v 21), (.v 22)] <|
      (.op none .pick [(.v 20), (.c (.bool true)), (.v 23)] <|
      (.ite (.v 24)
        (.out 0 [(.c (.bool false))])
        (.call none 105 [(.v 13), (.c (.int 1))] 1 <|
        (.op none (.icm .lss) [(.v 25), (.c (.int 0))] <|
        (.ite (.v 26)
          (.out 0 [(.c (.bool false))])
          (.op none (.icm .neq) [(.v 25), (.v 12)] <|
          (.ite (.v 27)
            (.out 0 [(.c (.bool false))])
            (.out 0 [(.c (.bool true))])))))))))))))))))))))))))))))
def S108 (G : Told) (_fuel : Nat) (x0 x1 : D) : Option (Nat × List D) :=
  (gcall G none 107 [x0, x1] 2).bind fun e2 =>
  (gcall G none 107 [x0, x1] 2).bind fun e4 =>
  (gcall G none 101 [(e4.getD 0 .undef), (e2.getD 0 .undef)] 1).bind fun e6 =>
  (gev none .bnot [(e6.getD 0 .undef)]).bind fun x7 =>
  (gev (some (x7, false)) .id [(e4.getD 1 .undef)]).bind fun x8 =>
  (gev (some (x7, false)) .id [(e2.getD 1 .undef)]).bind fun x9 =>
  (gev (some (x7, false)) .bne [x8, x9]).bind fun x10 =>
  (gev none .pick [x7, (.bool true), x10]).bind fun x11 =>
  tif x11 (
    some (0, [(.bool false)])) (
    (gcall G none 103 [(e4.getD 0 .undef), (.int 1)] 2).bind fun e12 =>
    (gcall G none 105 [(e12.getD 1 .undef), (.int 1)] 1).bind fun e14 =>
    (gev none (.icm .lss) [(e14.getD 0 .undef), (.int 0)]).bind fun x15 =>
    tif x15 (
      some (0, [(.bool false)])) (
      (gev none (.icm .neq) [(e14.getD 0 .undef), (e12.getD 0 .undef)]).bind fun x16 =>
      tif x16 (
        some (0, [(.bool false)])) (
        (gcall G none 107 [x0, x1] 2).bind fun e17 =>
        (gcall G none 101 [(e17.getD 0 .undef), (e2.getD 0 .undef)] 1).bind fun e19 =>
        (gev none .bnot [(e19.getD 0 .undef)]).bind fun x20 =>
        (gev (some (x20, false)) .id [(e17.getD 1 .undef)]).bind fun x21 =>
        (gev (some (x20, false)) .id [(e2.getD 1 .undef)]).bind fun x22 =>
        (gev (some (x20, false)) .bne [x21, x22]).bind fun x23 =>
        (gev none .pick [x20, (.bool true), x23]).bind fun x24 =>
        tif x24 (
          some (0, [(.bool false)])) (
          (gcall G none 105 [(e12.getD 1 .undef), (.int 1)] 1).bind fun e25 =>
          (gev none (.icm .lss) [(e25.getD 0 .undef), (.int 0)]).bind fun x26 =>
          tif x26 (
            some (0, [(.bool false)])) (
            (gev none (.icm .neq) [(e25.getD 0 .undef), (e12.getD 0 .undef)]).bind fun x27 =>
            tif x27 (
              some (0, [(.bool false)])) (
              some (0, [(.bool true)])))))))
theorem eq108 {G : Told} {fuel : Nat} (x0 x1 : D) : run G fuel T108 [x0, x1] = S108 G fuel x0 x1 := by
  rw [run_eq]; kernel_rfl

set_option maxHeartbeats 4000000 in
theorem run19 {G : Told} : ∀ ds rs, F19 ds = some rs → ∃ fuel, run G fuel T19 ds = some (0, rs) := by
  intro ds rs h
  simp only [F19] at h
  split at h <;> simp only [Option.some.injEq, reduceCtorEq] at h
  subst h
  rename_i n a b
  refine ⟨0, ?_⟩
  rw [eq19]
  unfold S19
  cases h1 : decide (a ≤ n)
  · have h1' : decide (n ≥ a) = false := h1
    repeat' first
      | (apply st_callt; assumption; exact rfl; exact rfl; assumption)
      | (apply st_callf; assumption; exact rfl; exact rfl; assumption)
      | (apply st_call; assumption; exact rfl; exact rfl; exact rfl)
      | (apply st_wide; exact rfl; exact rfl)
      | (apply st_skip; exact rfl)
      | (apply st_t; exact rfl; exact rfl)
      | (apply st_f; exact rfl; exact rfl)
      | (apply st_t; exact rfl; assumption)
      | (apply st_f; exact rfl; assumption)
      | (apply st_some; exact rfl)
      | refine st_ift ?_
      | refine st_iff ?_
      | exact rfl
  · have h1' : decide (n ≥ a) = true := h1
    repeat' first
      | (apply st_callt; assumption; exact rfl; exact rfl; assumption)
      | (apply st_callf; assumption; exact rfl; exact rfl; assumption)
      | (apply st_call; assumption; exact rfl; exact rfl; exact rfl)
      | (apply st_wide; exact rfl; exact rfl)
      | (apply st_skip; exact rfl)
      | (apply st_t; exact rfl; exact rfl)
      | (apply st_f; exact rfl; exact rfl)
      | (apply st_t; exact rfl; assumption)
      | (apply st_f; exact rfl; assumption)
      | (apply st_some; exact rfl)
      | refine st_ift ?_
      | refine st_iff ?_
      | exact rfl

attribute [local irreducible] IntKind.wrap
theorem quo_ok {a b : Int} (h : b ≠ 0) : gev none (.idv .quo .i64) [.int a, .int b] = some (.int (IntKind.wrap .i64 (a.tdiv b))) := by
  simp [gev, gok, Prim.ev, idiv, h]
theorem rem_ok {a b : Int} (h : b ≠ 0) : gev none (.idv .rem .i64) [.int a, .int b] = some (.int (a.tmod b)) := by
  simp [gev, gok, Prim.ev, idiv, h]
theorem app_ok {l m : List D} (h : l.length + m.length ≤ 1099511627776) : gev none .app [.lst l, .lst m] = some (.lst (l ++ m)) := by
  simp only [gev, gok, if_true, Prim.ev]
  rw [if_pos h]

set_option maxHeartbeats 4000000 in
theorem loop106 {G : Told} {a b : Int} (hb : b ≠ 0) : ∀ (n : Nat) (xs : List D) (p i : Int), b = i + n → 0 ≤ i → i + n < 1000 → (xs.length : Int) + n < 1000 →
    ∃ ds, iter (tbody 3 (S106L0 G (.int a) (.int b))) (n + 1) [.lst xs, .int p, .int i] = some (0, .lst (xs ++ shares a b n i p) :: ds) ∧ ds.length = 3 := by
  intro n
  induction n with
  | zero =>
    intro xs p i he _ _ _
    have h0 : decide (i < b) = false := by simp; omega
    refine ⟨_, iter_end (l := 0) (ds' := .lst (xs ++ shares a b 0 i p) :: .int p :: .int i :: [.bool false]) ?_ rfl, rfl⟩
    refine tb rfl ?_
    rw [show xs ++ shares a b 0 i p = xs from by simp [shares]]
    unfold S106L0
    repeat' first
      | (apply st_callt; assumption; exact rfl; exact rfl; assumption)
      | (apply st_callf; assumption; exact rfl; exact rfl; assumption)
      | (apply st_call; assumption; exact rfl; exact rfl; exact rfl)
      | (apply st_wide; exact rfl; exact rfl)
      | (apply st_skip; exact rfl)
      | (apply st_t; exact rfl; exact rfl)
      | (apply st_f; exact rfl; exact rfl)
      | (apply st_t; exact rfl; assumption)
      | (apply st_f; exact rfl; assumption)
      | (apply st_some; exact rfl)
      | refine st_ift ?_
      | refine st_iff ?_
      | exact rfl
  | succ n ih =>
    intro xs p i he hi hs hx
    have h0 : decide (i < b) = true := by simp; omega
    have hq := quo_ok (a := a) hb
    have hr := rem_ok (a := a) hb
    have hap : gev none .app [.lst xs, .lst [.lst [.int p, .int (shW a b i)]]] = some (.lst (xs ++ [.lst [.int p, .int (shW a b i)]])) := app_ok (by simp; omega)
    obtain ⟨ds, h1, h2⟩ := ih (xs ++ [.lst [.int p, .int (shW a b i)]]) (IntKind.wrap .i64 (p + shW a b i)) (i + 1) (by omega) (by omega) (by omega) (by simp; omega)
    have e : xs ++ shares a b (n + 1) i p = xs ++ [.lst [.int p, .int (shW a b i)]] ++ shares a b n (i + 1) (IntKind.wrap .i64 (p + shW a b i)) := by simp only [shares, List.append_assoc, List.cons_append, List.nil_append]
    refine ⟨ds, ?_, h2⟩
    rw [e]
    refine iter_go ?_ h1
    refine tb rfl ?_
    rw [← wrapU hi (by omega)]
    clear h1 ih
    cases hc : decide (i < a.tmod b)
    · have hw : shW a b i = IntKind.wrap .i64 (a.tdiv b) := by
        simp only [shW]
        rw [if_neg (by simpa using hc)]
      rw [hw] at hap ⊢
      unfold S106L0
      exact st_t rfl h0 (st_ift (st_some hq (st_some hr (st_f rfl hc (st_join (st_iff rfl) rfl (st_some rfl (st_some rfl (st_some hap (st_some rfl (st_some rfl rfl))))))))))
    · have hw : shW a b i = IntKind.wrap .i64 (IntKind.wrap .i64 (a.tdiv b) + 1) := by
        simp only [shW]
        rw [if_pos (by simpa using hc)]
      rw [hw] at hap ⊢
      unfold S106L0
      exact st_t rfl h0 (st_ift (st_some hq (st_some hr (st_t rfl hc (st_join (st_ift (st_some rfl rfl)) rfl (st_some rfl (st_some rfl (st_some hap (st_some rfl (st_some rfl rfl))))))))))
set_option maxHeartbeats 4000000 in
theorem loop107s {G : Told} {a b : Int} (hb : b ≠ 0) : ∀ (n : Nat) (xs : List D) (p i : Int), b = i + n → 0 ≤ i → i + n < 1000 → (xs.length : Int) + n < 1000 →
    ∃ ds, iter (tbody 3 (S107sL0 G (.int a) (.int b))) (n + 1) [.lst xs, .int p, .int i] = some (0, .lst (xs ++ shares a b n i p) :: ds) ∧ ds.length = 4 := by
  intro n
  induction n with
  | zero =>
    intro xs p i he _ _ _
    have h0 : decide (i < b) = false := by simp; omega
    refine ⟨_, iter_end (l := 0) (ds' := .lst (xs ++ shares a b 0 i p) :: .int p :: .int i :: [.int i, .bool false]) ?_ rfl, rfl⟩
    refine tb rfl ?_
    rw [show xs ++ shares a b 0 i p = xs from by simp [shares]]
    unfold S107sL0
    repeat' first
      | (apply st_callt; assumption; exact rfl; exact rfl; assumption)
      | (apply st_callf; assumption; exact rfl; exact rfl; assumption)
      | (apply st_call; assumption; exact rfl; exact rfl; exact rfl)
      | (apply st_wide; exact rfl; exact rfl)
      | (apply st_skip; exact rfl)
      | (apply st_t; exact rfl; exact rfl)
      | (apply st_f; exact rfl; exact rfl)
      | (apply st_t; exact rfl; assumption)
      | (apply st_f; exact rfl; assumption)
      | (apply st_some; exact rfl)
      | refine st_ift ?_
      | refine st_iff ?_
      | exact rfl
  | succ n ih =>
    intro xs p i he hi hs hx
    have h0 : decide (i < b) = true := by simp; omega
    have hq := quo_ok (a := a) hb
    have hr := rem_ok (a := a) hb
    have hap : gev none .app [.lst xs, .lst [.lst [.int p, .int (shW a b i)]]] = some (.lst (xs ++ [.lst [.int p, .int (shW a b i)]])) := app_ok (by simp; omega)
    obtain ⟨ds, h1, h2⟩ := ih (xs ++ [.lst [.int p, .int (shW a b i)]]) (IntKind.wrap .i64 (p + shW a b i)) (i + 1) (by omega) (by omega) (by omega) (by simp; omega)
    have e : xs ++ shares a b (n + 1) i p = xs ++ [.lst [.int p, .int (shW a b i)]] ++ shares a b n (i + 1) (IntKind.wrap .i64 (p + shW a b i)) := by simp only [shares, List.append_assoc, List.cons_append, List.nil_append]
    refine ⟨ds, ?_, h2⟩
    rw [e]
    refine iter_go ?_ h1
    refine tb rfl ?_
    rw [← wrapU hi (by omega)]
    clear h1 ih
    cases hc : decide (i < a.tmod b)
    · have hw : shW a b i = IntKind.wrap .i64 (a.tdiv b) := by
        simp only [shW]
        rw [if_neg (by simpa using hc)]
      rw [hw] at hap ⊢
      unfold S107sL0
      exact st_t rfl h0 (st_ift (st_some hq (st_some hr (st_f rfl hc (st_join (st_iff rfl) rfl (st_some rfl (st_some rfl (st_some hap (st_some rfl (st_some rfl rfl))))))))))
    · have hw : shW a b i = IntKind.wrap .i64 (IntKind.wrap .i64 (a.tdiv b) + 1) := by
        simp only [shW]
        rw [if_pos (by simpa using hc)]
      rw [hw] at hap ⊢
      unfold S107sL0
      exact st_t rfl h0 (st_ift (st_some hq (st_some hr (st_t rfl hc (st_join (st_ift (st_some rfl rfl)) rfl (st_some rfl (st_some rfl (st_some hap (st_some rfl (st_some rfl rfl))))))))))
set_option maxHeartbeats 4000000 in
theorem run106 {G : Told} : ∀ ds rs, F106 ds = some rs → ∃ fuel, run G fuel T106 ds = some (0, rs) := by
  intro ds rs h
  simp only [F106] at h
  split at h
  · rename_i a b
    split at h
    · rename_i hc
      simp only [inB, Bool.and_eq_true, decide_eq_true_eq] at hc
      simp only [Option.some.injEq] at h
      subst h
      obtain ⟨ds, h1, h2⟩ := loop106 (G := G) (a := a) (b := b) (by omega) b.toNat [] 0 0 (by omega) (by omega) (by omega) (by simp; omega)
      refine ⟨b.toNat + 1, ?_⟩
      rw [eq106]
      unfold S106
      refine st_some rfl (st_join h1 (by simp [h2]) ?_)
      rfl
    · cases h
  · cases h

set_option maxHeartbeats 4000000 in
theorem run107 {G : Told} (g19 : G 19 = F19) (g106 : G 106 = F106) : ∀ ds rs, F107 ds = some rs → ∃ fuel, run G fuel T107 ds = some (0, rs) := by
  intro ds rs h
  simp only [F107] at h
  split at h <;> simp only [Option.some.injEq, reduceCtorEq] at h
  subst h
  rename_i a b
  cases h1 : inB 0 256 a
  · refine ⟨0, ?_⟩
    have h1' : (decide (0 ≤ a) && decide (a ≤ 256)) = false := h1
    rw [eq107]
    unfold S107
    repeat' first
      | (apply st_callt; assumption; exact rfl; exact rfl; assumption)
      | (apply st_callf; assumption; exact rfl; exact rfl; assumption)
      | (apply st_call; assumption; exact rfl; exact rfl; exact rfl)
      | (apply st_wide; exact rfl; exact rfl)
      | (apply st_skip; exact rfl)
      | (apply st_t; exact rfl; exact rfl)
      | (apply st_f; exact rfl; exact rfl)
      | (apply st_t; exact rfl; assumption)
      | (apply st_f; exact rfl; assumption)
      | (apply st_some; exact rfl)
      | refine st_ift ?_
      | refine st_iff ?_
      | exact rfl
  cases h2 : inB 1 8 b
  · refine ⟨0, ?_⟩
    have h1' : (decide (0 ≤ a) && decide (a ≤ 256)) = true := h1
    have h2' : (decide (1 ≤ b) && decide (b ≤ 8)) = false := h2
    rw [eq107]
    unfold S107
    repeat' first
      | (apply st_callt; assumption; exact rfl; exact rfl; assumption)
      | (apply st_callf; assumption; exact rfl; exact rfl; assumption)
      | (apply st_call; assumption; exact rfl; exact rfl; exact rfl)
      | (apply st_wide; exact rfl; exact rfl)
      | (apply st_skip; exact rfl)
      | (apply st_t; exact rfl; exact rfl)
      | (apply st_f; exact rfl; exact rfl)
      | (apply st_t; exact rfl; assumption)
      | (apply st_f; exact rfl; assumption)
      | (apply st_some; exact rfl)
      | refine st_ift ?_
      | refine st_iff ?_
      | exact rfl
  · refine ⟨0, ?_⟩
    have h1' : (decide (0 ≤ a) && decide (a ≤ 256)) = true := h1
    have h2' : (decide (1 ≤ b) && decide (b ≤ 8)) = true := h2
    have hf : F106 [.int a, .int b] = some [.lst (shares a b b.toNat 0 0)] := by simp [F106, h2]
    rw [eq107]
    unfold S107
    repeat' first
      | (apply st_call; exact g106; exact rfl; exact hf; exact rfl)
      | (apply st_callt; assumption; exact rfl; exact rfl; assumption)
      | (apply st_callf; assumption; exact rfl; exact rfl; assumption)
      | (apply st_call; assumption; exact rfl; exact rfl; exact rfl)
      | (apply st_wide; exact rfl; exact rfl)
      | (apply st_skip; exact rfl)
      | (apply st_t; exact rfl; exact rfl)
      | (apply st_f; exact rfl; exact rfl)
      | (apply st_t; exact rfl; assumption)
      | (apply st_f; exact rfl; assumption)
      | (apply st_some; exact rfl)
      | refine st_ift ?_
      | refine st_iff ?_
      | exact rfl
set_option maxHeartbeats 4000000 in
theorem run107s {G : Told} (g19 : G 19 = F19) : ∀ ds rs, F107 ds = some rs → ∃ fuel, run G fuel T107s ds = some (0, rs) := by
  intro ds rs h
  simp only [F107] at h
  split at h <;> simp only [Option.some.injEq, reduceCtorEq] at h
  subst h
  rename_i a b
  cases h1 : inB 0 256 a
  · refine ⟨0, ?_⟩
    have h1' : (decide (0 ≤ a) && decide (a ≤ 256)) = false := h1
    rw [eq107s]
    unfold S107s
    repeat' first
      | (apply st_callt; assumption; exact rfl; exact rfl; assumption)
      | (apply st_callf; assumption; exact rfl; exact rfl; assumption)
      | (apply st_call; assumption; exact rfl; exact rfl; exact rfl)
      | (apply st_wide; exact rfl; exact rfl)
      | (apply st_skip; exact rfl)
      | (apply st_t; exact rfl; exact rfl)
      | (apply st_f; exact rfl; exact rfl)
      | (apply st_t; exact rfl; assumption)
      | (apply st_f; exact rfl; assumption)
      | (apply st_some; exact rfl)
      | refine st_ift ?_
      | refine st_iff ?_
      | exact rfl
  cases h2 : inB 1 8 b
  · refine ⟨0, ?_⟩
    have h1' : (decide (0 ≤ a) && decide (a ≤ 256)) = true := h1
    have h2' : (decide (1 ≤ b) && decide (b ≤ 8)) = false := h2
    rw [eq107s]
    unfold S107s
    repeat' first
      | (apply st_callt; assumption; exact rfl; exact rfl; assumption)
      | (apply st_callf; assumption; exact rfl; exact rfl; assumption)
      | (apply st_call; assumption; exact rfl; exact rfl; exact rfl)
      | (apply st_wide; exact rfl; exact rfl)
      | (apply st_skip; exact rfl)
      | (apply st_t; exact rfl; exact rfl)
      | (apply st_f; exact rfl; exact rfl)
      | (apply st_t; exact rfl; assumption)
      | (apply st_f; exact rfl; assumption)
      | (apply st_some; exact rfl)
      | refine st_ift ?_
      | refine st_iff ?_
      | exact rfl
  · have h1' : (decide (0 ≤ a) && decide (a ≤ 256)) = true := h1
    have h2' : (decide (1 ≤ b) && decide (b ≤ 8)) = true := h2
    have hc := h2
    simp only [inB, Bool.and_eq_true, decide_eq_true_eq] at hc
    obtain ⟨ds, k1, k2⟩ := loop107s (G := G) (a := a) (b := b) (by omega) b.toNat [] 0 0 (by omega) (by omega) (by omega) (by simp; omega)
    refine ⟨b.toNat + 1, ?_⟩
    have k3 : (D.lst ([] ++ shares a b b.toNat 0 0) :: ds).length = 5 := by simp [k2]
    rw [eq107s]
    unfold S107s
    repeat' first
      | (apply st_join; exact k1; exact k3)
      | (apply st_callt; assumption; exact rfl; exact rfl; assumption)
      | (apply st_callf; assumption; exact rfl; exact rfl; assumption)
      | (apply st_call; assumption; exact rfl; exact rfl; exact rfl)
      | (apply st_wide; exact rfl; exact rfl)
      | (apply st_skip; exact rfl)
      | (apply st_t; exact rfl; exact rfl)
      | (apply st_f; exact rfl; exact rfl)
      | (apply st_t; exact rfl; assumption)
      | (apply st_f; exact rfl; assumption)
      | (apply st_some; exact rfl)
      | refine st_ift ?_
      | refine st_iff ?_
      | exact rfl
set_option maxHeartbeats 4000000 in
theorem run108 {G : Told} (g101 : G 101 = F101) (g103 : G 103 = F103) (g105 : G 105 = F105) (g107 : G 107 = F107) : ∀ ds rs, F108 ds = some rs → ∃ fuel, run G fuel T108 ds = some (0, rs) := by
  intro ds rs h
  simp only [F108] at h
  split at h <;> simp only [Option.some.injEq, reduceCtorEq] at h
  subst h
  rename_i a b
  refine ⟨0, ?_⟩
  obtain ⟨l, c, hf, hok⟩ : ∃ l c, F107 [.int a, .int b] = some [.lst l, .bool c] ∧ SSok l := by
    simp only [F107]
    split
    · rename_i hc
      simp only [inB, Bool.and_eq_true, decide_eq_true_eq] at hc
      obtain ⟨s1, s2, s3, s4⟩ := shares_ok a b b.toNat 0 0
      exact ⟨_, _, rfl, s1, s2, by rw [s3]; omega, by rw [s4]; omega⟩
    · exact ⟨[], false, rfl, rfl, by simp, by simp [tot], by simp⟩
  have q1 := hok.f101
  have q3 := hok.f103
  have q5 := hok.f105
  have e1 : decide ((1 : Int) + (tot (l.map unL) : Int) < 0) = false := by simp; omega
  have e2 : ((1 : Int) + (tot (l.map unL) : Int) != 1 + (tot (l.map unL) : Int)) = false := by simp
  generalize (1 : Int) + (tot (l.map unL) : Int) = t at *
  generalize (mks 1 (l.map unL)).map D.lst = l2 at *
  rw [eq108]
  unfold S108
  cases c
  · repeat' first
      | (apply st_call; exact g107; exact rfl; exact hf; exact rfl)
      | (apply st_call; exact g101; exact rfl; exact q1; exact rfl)
      | (apply st_call; exact g103; exact rfl; exact q3; exact rfl)
      | (apply st_call; exact g105; exact rfl; exact q5; exact rfl)
      | (apply st_callt; assumption; exact rfl; exact rfl; assumption)
      | (apply st_callf; assumption; exact rfl; exact rfl; assumption)
      | (apply st_call; assumption; exact rfl; exact rfl; exact rfl)
      | (apply st_wide; exact rfl; exact rfl)
      | (apply st_skip; exact rfl)
      | (apply st_t; exact rfl; exact rfl)
      | (apply st_f; exact rfl; exact rfl)
      | (apply st_t; exact rfl; assumption)
      | (apply st_f; exact rfl; assumption)
      | (apply st_some; exact rfl)
      | refine st_ift ?_
      | refine st_iff ?_
      | exact rfl
  · repeat' first
      | (apply st_call; exact g107; exact rfl; exact hf; exact rfl)
      | (apply st_call; exact g101; exact rfl; exact q1; exact rfl)
      | (apply st_call; exact g103; exact rfl; exact q3; exact rfl)
      | (apply st_call; exact g105; exact rfl; exact q5; exact rfl)
      | (apply st_callt; assumption; exact rfl; exact rfl; assumption)
      | (apply st_callf; assumption; exact rfl; exact rfl; assumption)
      | (apply st_call; assumption; exact rfl; exact rfl; exact rfl)
      | (apply st_wide; exact rfl; exact rfl)
      | (apply st_skip; exact rfl)
      | (apply st_t; exact rfl; exact rfl)
      | (apply st_f; exact rfl; exact rfl)
      | (apply st_t; exact rfl; assumption)
      | (apply st_f; exact rfl; assumption)
      | (apply st_some; exact rfl)
      | refine st_ift ?_
      | refine st_iff ?_
      | exact rfl

end Vs
