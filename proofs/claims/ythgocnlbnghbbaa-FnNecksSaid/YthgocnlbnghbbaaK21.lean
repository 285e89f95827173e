/-
  RingMesh and FilmMesh: what the functions compute, and the law.
-/
import Derived.Test.YthgocnlbnghbbaaK20p
namespace Vs
open Go

def sinQ (n k : Nat) : Nat := sinV (fadd .f32 (qP n k) 1048576000)
def sin0 (n k : Nat) : Nat := sinV (qP n k)
def ringV (n rad st i : Nat) : V3 := ⟨fmul .f32 rad (sinQ n (i % n)), fmul .f32 rad (sin0 n (i % n)), fmul .f32 (i2f .f32 ((i / n : Nat) : Int)) st⟩
def ringA (n rad st N : Nat) : List V3 := (List.range N).map (ringV n rad st)
def triR (n r k : Nat) : List (List Int) :=
  [[((k + n * r : Nat) : Int), (((k + 1) % n + n * r : Nat) : Int), (((k + 1) % n + n * r + n : Nat) : Int)], [((k + n * r : Nat) : Int), (((k + 1) % n + n * r + n : Nat) : Int), ((k + n * r + n : Nat) : Int)]]
def triA (n : Nat) : Nat → List (List Int)
  | 0 => []
  | N + 1 => triA n N ++ triR n (N / n) (N % n)
def ringB (n R : Int) : Bool := decide (3 ≤ n) && decide (n ≤ 16) && (decide (1 ≤ R) && decide (R ≤ 64))
def ringOk (n R : Int) (rad st : Nat) : Bool := ringB n R && overP rad && overP st && validP ((R.toNat + 1) * n.toNat) (triA n.toNat (R.toNat * n.toNat))
noncomputable def F478 : List D → Option (List D)
  | [a, b] => (F150 [a, b]).bind fun r => match r with
    | [.bool v] => some (if v = true then [a, b, .bool true] else [.lst [], .lst [], .bool false])
    | _ => none
  | _ => none
def F471 : List D → Option (List D)
  | [.int n, .int R, .flt rad, .flt st] => if ringB n R = true then some [vl (ringA n.toNat rad st ((R.toNat + 1) * n.toNat)), tl (triA n.toNat (R.toNat * n.toNat))] else none
  | _ => none
def F470 : List D → Option (List D)
  | [.int n, .int R, .flt rad, .flt st] => some (if ringOk n R rad st = true then [vl (ringA n.toNat rad st ((R.toNat + 1) * n.toNat)), tl (triA n.toNat (R.toNat * n.toNat)), .bool true] else [.lst [], .lst [], .bool false])
  | _ => none
def filZ (R gap r : Nat) : Nat := fsub .f32 (fmul .f32 gap (fdiv .f32 (i2f .f32 (r : Int)) (i2f .f32 (R : Int)))) (fmul .f32 1056964608 gap)
def filW (R rad gap l r : Nat) : Nat := if r = 0 ∨ r = R then rad else (widthO l (filZ R gap r)).getD 0
def filV (n R rad gap l i : Nat) : V3 := ⟨fmul .f32 (filW R rad gap l (i / n)) (sinQ n (i % n)), fmul .f32 (filW R rad gap l (i / n)) (sin0 n (i % n)), filZ R gap (i / n)⟩
def filA (n R rad gap l N : Nat) : List V3 := (List.range N).map (filV n R rad gap l)
def filmN (rad gap : Nat) : Option Nat := if (overP rad && overP gap) = true then (neckO rad gap).getD none else none
def filmD (n R : Int) (rad gap : Nat) : List D :=
  match filmN rad gap with
  | some l => if ringOk n R rad 1065353216 = true then [vl (filA n.toNat R.toNat rad gap l ((R.toNat + 1) * n.toNat)), tl (triA n.toNat (R.toNat * n.toNat)), .bool true] else [.lst [], .lst [], .bool false]
  | none => [.lst [], .lst [], .bool false]
def F472 : List D → Option (List D)
  | [.int n, .int R, .flt rad, .flt gap] => some (filmD n R rad gap)
  | _ => none
theorem dm {n r k : Nat} (h : k < n) : (r * n + k) / n = r ∧ (r * n + k) % n = k := by
  constructor
  · rw [Nat.mul_comm, Nat.mul_add_div (by omega), Nat.div_eq_of_lt h]
    omega
  · rw [Nat.mul_comm, Nat.mul_add_mod, Nat.mod_eq_of_lt h]
theorem ringV_at {n rad st r k : Nat} (h : k < n) : ringV n rad st (r * n + k) = ⟨fmul .f32 rad (sinQ n k), fmul .f32 rad (sin0 n k), fmul .f32 (i2f .f32 (r : Int)) st⟩ := by
  unfold ringV
  rw [(dm h).1, (dm h).2]
theorem filV_at {n R rad gap l r k : Nat} (h : k < n) : filV n R rad gap l (r * n + k) = ⟨fmul .f32 (filW R rad gap l r) (sinQ n k), fmul .f32 (filW R rad gap l r) (sin0 n k), filZ R gap r⟩ := by
  unfold filV
  rw [(dm h).1, (dm h).2]
theorem ringA_length (n rad st N : Nat) : (ringA n rad st N).length = N := by simp [ringA]
theorem filA_length (n R rad gap l N : Nat) : (filA n R rad gap l N).length = N := by simp [filA]
theorem ringA_succ (n rad st N : Nat) : ringA n rad st (N + 1) = ringA n rad st N ++ [ringV n rad st N] := by simp [ringA, List.range_succ]
theorem filA_get {n R rad gap l N i : Nat} (h : i < (filA n R rad gap l N).length) : (filA n R rad gap l N)[i] = filV n R rad gap l i := by simp [filA]
theorem triA_length (n : Nat) : ∀ N, (triA n N).length = 2 * N
  | 0 => rfl
  | N + 1 => by
    unfold triA triR
    rw [List.length_append, triA_length n N]
    simp
    omega
theorem triA_totL (n : Nat) : ∀ N, totL (triA n N) = 6 * N
  | 0 => rfl
  | N + 1 => by
    have h := triA_totL n N
    unfold totL at h ⊢
    unfold triA triR
    rw [List.map_append, List.sum_append, h]
    simp
    omega
theorem ring_sz {n rad st R : Nat} (hn : n ≤ 16) (hR : R ≤ 64) : szM (ringA n rad st ((R + 1) * n)) (triA n (R * n)) ≤ 1048576 := by
  unfold szM
  rw [ringA_length, triA_length, triA_totL]
  have h1 : (R + 1) * n ≤ 65 * 16 := Nat.mul_le_mul (by omega) hn
  have h2 : R * n ≤ 64 * 16 := Nat.mul_le_mul hR hn
  omega
theorem app_tls {l m : List (List Int)} (h : l.length + m.length ≤ 1048576) : gev none .app [tl l, tl m] = some (tl (l ++ m)) := by
  simp only [gev, gok, if_true, Prim.ev, tl]
  rw [if_pos (by simp; omega)]
  simp
theorem app_tri {n r k : Nat} (hk : k < n) (hn : n ≤ 16) (hr : r ≤ 64) : gev none .app [tl (triA n (r * n + k)), .lst [.lst [.int ((k + n * r : Nat) : Int), .int (((k + 1) % n + n * r : Nat) : Int), .int (((k + 1) % n + n * r + n : Nat) : Int)],
    .lst [.int ((k + n * r : Nat) : Int), .int (((k + 1) % n + n * r + n : Nat) : Int), .int ((k + n * r + n : Nat) : Int)]]] = some (tl (triA n (r * n + k + 1))) := by
  have h2 : r * n ≤ 64 * 16 := Nat.mul_le_mul hr hn
  have h := app_tls (l := triA n (r * n + k)) (m := triR n r k) (by rw [triA_length]; simp [triR]; omega)
  have e : triA n (r * n + k + 1) = triA n (r * n + k) ++ triR n r k := by
    rw [triA, (dm hk).1, (dm hk).2]
  rw [e]
  exact h
theorem app_ring {n rad st r k : Nat} (hk : k < n) (hn : n ≤ 16) (hr : r ≤ 64) : gev none .app [vl (ringA n rad st (r * n + k)), .lst [.agg [.flt (fmul .f32 rad (sinQ n k)), .flt (fmul .f32 rad (sin0 n k)), .flt (fmul .f32 (i2f .f32 (r : Int)) st)]]] = some (vl (ringA n rad st (r * n + k + 1))) := by
  have h2 : r * n ≤ 64 * 16 := Nat.mul_le_mul hr hn
  have h := app_vl (l := ringA n rad st (r * n + k)) (v := ringV n rad st (r * n + k)) (by rw [ringA_length]; omega)
  rw [← ringA_succ, ringV_at hk] at h
  exact h
theorem q_call {n k : Nat} (h3 : 3 ≤ n) (h16 : n ≤ 16) (hk : k < n) : F474 [.flt (fadd .f32 (fdiv .f32 (i2f .f32 (k : Int)) (i2f .f32 (n : Int))) 1048576000)] = some [.flt (sinQ n k)] ∧ F474 [.flt (fdiv .f32 (i2f .f32 (k : Int)) (i2f .f32 (n : Int)))] = some [.flt (sin0 n k)] := by
  have h := qP_mem n (by omega) h3 k hk
  exact ⟨F474_ok h.2, F474_ok h.1⟩
theorem ringB_inv {n R : Int} (h : ringB n R = true) : ∃ m k : Nat, n = m ∧ R = k ∧ 3 ≤ m ∧ m ≤ 16 ∧ 1 ≤ k ∧ k ≤ 64 := by
  unfold ringB at h
  simp only [Bool.and_eq_true, decide_eq_true_eq] at h
  exact ⟨n.toNat, R.toNat, by omega, by omega, by omega, by omega, by omega, by omega⟩

/-! ### Heights -/
theorem i2f_R : ∀ R, R < 21 → ∀ r, r < R + 1 → rk .f32 (i2f .f32 ((r : Nat) : Int)) ≤ rk .f32 (i2f .f32 ((R : Nat) : Int)) ∧ rk .f32 (i2f .f32 ((R : Nat) : Int)) < inf .f32 ∧ sgn FloatKind.f32.format (i2f .f32 ((r : Nat) : Int)) = false ∧ sgn FloatKind.f32.format (i2f .f32 ((R : Nat) : Int)) = false ∧ (0 < R → 0 < rk .f32 (i2f .f32 ((R : Nat) : Int))) := by decide +kernel
theorem V1 : Vk .f32 1065353216 = dn .f32 := by decide +kernel
theorem film_ok {rad gap l R r : Nat} (ho : overP rad = true) (hg : overP gap = true) (hn : neckO rad gap = some (some l)) (hR : R < 21) (h0 : 0 < R) (hr : r ≤ R) : overP l = true ∧ ∃ w, widthO l (filZ R gap r) = some w := by
  obtain ⟨o, e, hl⟩ := neck_R ho hg
  rw [hn] at e
  cases e
  obtain ⟨l1, l2, l3, _, l4⟩ := hl l rfl
  refine ⟨l1, ?_⟩
  obtain ⟨g1, g2⟩ := over_R hg
  obtain ⟨g3, g4, g5⟩ := sv_pos g2
  obtain ⟨i1, i2, i3, i4, i5⟩ := i2f_R R hR r (by omega)
  have i6 := i5 h0
  obtain ⟨a, ea, ra⟩ := fdiv_R (k := .f32) (x := i2f .f32 (r : Int)) (y := i2f .f32 (R : Int)) (Nat.lt_of_le_of_lt i1 i2) i2 (by omega)
  rw [i3, i4] at ea
  have a1 : a ≤ 1065353216 := ra.2.1 _ (by show _ ≤ Ieee.single.infRung; rw [infS]; decide) (by
    show Vk .f32 _ * dn .f32 ≤ Vk .f32 1065353216 * Vk .f32 _
    rw [V1, Nat.mul_comm]
    exact Nat.mul_le_mul_left _ (V_mono Ieee.single i1))
  have qi : a < inf .f32 := by rw [show inf .f32 = 2139095040 from infS]; omega
  have qr : rk .f32 (fdiv .f32 (i2f .f32 (r : Int)) (i2f .f32 (R : Int))) = a := by rw [ea]; exact rk_word ra.1
  have qs : sgn FloatKind.f32.format (fdiv .f32 (i2f .f32 (r : Int)) (i2f .f32 (R : Int))) = false := by rw [ea]; exact sgn_word ra.1
  obtain ⟨b, eb, rb⟩ := fmul_R (k := .f32) (x := gap) (y := fdiv .f32 (i2f .f32 (r : Int)) (i2f .f32 (R : Int))) g1 (by rw [qr]; exact qi)
  rw [qs, show sgn FloatKind.f32.format gap = false from g3] at eb
  have b1 : b ≤ rk .f32 gap := rb.2.1 _ (Nat.le_of_lt g1) (by
    rw [qr]
    refine Nat.mul_le_mul_left _ ?_
    rw [← V1]
    exact V_mono Ieee.single a1)
  have br : rk .f32 (fmul .f32 gap (fdiv .f32 (i2f .f32 (r : Int)) (i2f .f32 (R : Int)))) = b := by rw [eb]; exact rk_word rb.1
  have bs : sgn FloatKind.f32.format (fmul .f32 gap (fdiv .f32 (i2f .f32 (r : Int)) (i2f .f32 (R : Int)))) = false := by rw [eb]; exact sgn_word rb.1
  obtain ⟨h, eh, h1, h2, _⟩ := half_R hg
  have eh : fmul .f32 1056964608 gap = h := eh
  have hh : rk .f32 h = h := rk_small (by omega)
  obtain ⟨c, u, ec, rc⟩ := fsub_R (k := .f32) (x := fmul .f32 gap (fdiv .f32 (i2f .f32 (r : Int)) (i2f .f32 (R : Int)))) (y := h) (by rw [br]; omega) (by rw [hh, show inf .f32 = 2139095040 from infS]; exact h1)
  have sx : sv .f32 (fmul .f32 gap (fdiv .f32 (i2f .f32 (r : Int)) (i2f .f32 (R : Int)))) = (VS b : Int) := by
    unfold sv
    rw [if_neg (by rw [bs]; simp), br]
    rfl
  have sh : sv .f32 h = (VS h : Int) := sv_small (by omega)
  have c1 : c ≤ rk .f32 gap := rc.2.1 _ (Nat.le_of_lt g1) (by
    rw [sx, sh]
    have m1 : VS b ≤ VS (rk .f32 gap) := V_mono Ieee.single b1
    show _ ≤ VS (rk .f32 gap) * 1
    omega)
  have cr : rk .f32 (filZ R gap r) = c := by
    unfold filZ
    rw [eh, ec]
    exact rk_word rc.1
  have h7 : VS (rk .f32 (filZ R gap r)) ≤ 7 * VS l := by
    rw [cr]
    exact Nat.le_trans (V_mono Ieee.single c1) l4
  obtain ⟨z, hz⟩ := cosh_R (x := fdiv .f32 (filZ R gap r) l) (Nat.le_trans (ratio_R (b := 7) (q := 1088421888) l3 l2 (by rw [cr]; exact Nat.lt_of_le_of_lt c1 g1) h7 (by decide +kernel)) (by decide))
  exact ⟨_, by rw [widthO, hz]; rfl⟩

def T478 : T :=
(.call none 150 [(.v 0), (.v 1)] 1 <|
(.op none .bnot [(.v 2)] <|
(.ite (.v 3)
  (.out 0 [(.c (.lst [])), (.c (.lst [])), (.c (.bool false))])
  (.out 0 [(.v 0), (.v 1), (.c (.bool true))]))))
def S478 (G : Told) (_fuel : Nat) (x0 x1 : D) : Option (Nat × List D) :=
  (gcall G none 150 [x0, x1] 1).bind fun e2 =>
  (gev none .bnot [(e2.getD 0 .undef)]).bind fun x3 =>
  tif x3 (
    some (0, [(.lst []), (.lst []), (.bool false)])) (
    some (0, [x0, x1, (.bool true)]))
theorem eq478 {G : Told} {fuel : Nat} (x0 x1 : D) : run G fuel T478 [x0, x1] = S478 G fuel x0 x1 := by
  rw [run_eq]; kernel_rfl

def T470 : T :=
(.call none 19 [(.v 0), (.c (.int 3)), (.c (.int 16))] 1 <|
(.op none .bnot [(.v 4)] <|
(.op (some ((.v 5), false)) .id [(.v 1)] <|
(.call (some ((.v 5), false)) 19 [(.v 6), (.c (.int 1)), (.c (.int 64))] 1 <|
(.op (some ((.v 5), false)) .bnot [(.v 7)] <|
(.op none .pick [(.v 5), (.c (.bool true)), (.v 8)] <|
(.op (some ((.v 9), false)) .id [(.v 2)] <|
(.call (some ((.v 9), false)) 2 [(.v 10)] 1 <|
(.op (some ((.v 9), false)) .bnot [(.v 11)] <|
(.op none .pick [(.v 9), (.c (.bool true)), (.v 12)] <|
(.op (some ((.v 13), false)) .id [(.v 3)] <|
(.call (some ((.v 13), false)) 2 [(.v 14)] 1 <|
(.op (some ((.v 13), false)) .bnot [(.v 15)] <|
(.op none .pick [(.v 13), (.c (.bool true)), (.v 16)] <|
(.ite (.v 17)
  (.out 0 [(.c (.lst [])), (.c (.lst [])), (.c (.bool false))])
  (.op none (.iar .add .i64) [(.v 1), (.c (.int 1))] <|
  (.join 4
    (.loop [(.c (.lst [])), (.c (.lst [])), (.c (.int 0))]
      (.op none (.icm .lss) [(.v 21), (.v 18)] <|
      (.ite (.v 22)
        (.join 4
          (.loop [(.v 19), (.v 20), (.c (.int 0))]
            (.op none (.icm .lss) [(.v 25), (.v 0)] <|
            (.ite (.v 26)
              (.op none (.i2f .f32) [(.v 25)] <|
              (.op none (.i2f .f32) [(.v 0)] <|
              (.op none (.far .quo .f32) [(.v 27), (.v 28)] <|
              (.op none (.far .add .f32) [(.v 29), (.c (.flt 1048576000))] <|
              (.call none 474 [(.v 30)] 1 <|
              (.op none (.far .mul .f32) [(.v 2), (.v 31)] <|
              (.call none 474 [(.v 29)] 1 <|
              (.op none (.far .mul .f32) [(.v 2), (.v 33)] <|
              (.op none (.i2f .f32) [(.v 21)] <|
              (.op none (.far .mul .f32) [(.v 35), (.v 3)] <|
              (.op none .mkagg [(.v 32), (.v 34), (.v 36)] <|
              (.op none .mklst [(.v 37)] <|
              (.op none .app [(.v 23), (.v 38)] <|
              (.op none (.icm .lss) [(.v 21), (.v 1)] <|
              (.join 1
                (.ite (.v 40)
                  (.op none (.iar .mul .i64) [(.v 0), (.v 21)] <|
                  (.op none (.iar .add .i64) [(.v 25), (.v 41)] <|
                  (.op none (.iar .add .i64) [(.v 25), (.c (.int 1))] <|
                  (.op none (.idv .rem .i64) [(.v 43), (.v 0)] <|
                  (.op none (.iar .mul .i64) [(.v 0), (.v 21)] <|
                  (.op none (.iar .add .i64) [(.v 44), (.v 45)] <|
                  (.op none (.iar .add .i64) [(.v 46), (.v 0)] <|
                  (.op none .mklst [(.v 42), (.v 46), (.v 47)] <|
                  (.op none (.iar .add .i64) [(.v 46), (.v 0)] <|
                  (.op none (.iar .add .i64) [(.v 42), (.v 0)] <|
                  (.op none .mklst [(.v 42), (.v 49), (.v 50)] <|
                  (.op none .mklst [(.v 48), (.v 51)] <|
                  (.op none .app [(.v 24), (.v 52)] <|
                  (.out 0 [(.v 53)]))))))))))))))
                  (.out 0 [(.v 24)]))
              (.op none (.iar .add .i64) [(.v 25), (.c (.int 1))] <|
              (.out 0 [(.v 39), (.v 41), (.v 42)])))))))))))))))))
              (.out 1 [(.v 23), (.v 24), (.v 25), (.v 26)]))))
        (.op none (.iar .add .i64) [(.v 21), (.c (.int 1))] <|
        (.out 0 [(.v 23), (.v 24), (.v 27)])))
        (.out 1 [(.v 19), (.v 20), (.v 21), (.v 22)]))))
  (.call none 478 [(.v 19), (.v 20)] 3 <|
  (.out 0 [(.v 23), (.v 24), (.v 25)])))))))))))))))))))
def S470L0 (G : Told) (x0 : D) (x1 : D) (x2 : D) (x3 : D) (e19 : List D) : List D → Option (Nat × List D) := fun e23 =>
              (gev none (.icm .lss) [(e23.getD 2 .undef), x0]).bind fun x26 =>
              tif x26 (
                (gev none (.i2f .f32) [(e23.getD 2 .undef)]).bind fun x27 =>
                (gev none (.i2f .f32) [x0]).bind fun x28 =>
                (gev none (.far .quo .f32) [x27, x28]).bind fun x29 =>
                (gev none (.far .add .f32) [x29, (.flt 1048576000)]).bind fun x30 =>
                (gcall G none 474 [x30] 1).bind fun e31 =>
                (gev none (.far .mul .f32) [x2, (e31.getD 0 .undef)]).bind fun x32 =>
                (gcall G none 474 [x29] 1).bind fun e33 =>
                (gev none (.far .mul .f32) [x2, (e33.getD 0 .undef)]).bind fun x34 =>
                (gev none (.i2f .f32) [(e19.getD 2 .undef)]).bind fun x35 =>
                (gev none (.far .mul .f32) [x35, x3]).bind fun x36 =>
                (gev none .mkagg [x32, x34, x36]).bind fun x37 =>
                (gev none .mklst [x37]).bind fun x38 =>
                (gev none .app [(e23.getD 0 .undef), x38]).bind fun x39 =>
                (gev none (.icm .lss) [(e19.getD 2 .undef), x1]).bind fun x40 =>
                tjoin 1 (
                  tif x40 (
                    (gev none (.iar .mul .i64) [x0, (e19.getD 2 .undef)]).bind fun x41 =>
                    (gev none (.iar .add .i64) [(e23.getD 2 .undef), x41]).bind fun x42 =>
                    (gev none (.iar .add .i64) [(e23.getD 2 .undef), (.int 1)]).bind fun x43 =>
                    (gev none (.idv .rem .i64) [x43, x0]).bind fun x44 =>
                    (gev none (.iar .mul .i64) [x0, (e19.getD 2 .undef)]).bind fun x45 =>
                    (gev none (.iar .add .i64) [x44, x45]).bind fun x46 =>
                    (gev none (.iar .add .i64) [x46, x0]).bind fun x47 =>
                    (gev none .mklst [x42, x46, x47]).bind fun x48 =>
                    (gev none (.iar .add .i64) [x46, x0]).bind fun x49 =>
                    (gev none (.iar .add .i64) [x42, x0]).bind fun x50 =>
                    (gev none .mklst [x42, x49, x50]).bind fun x51 =>
                    (gev none .mklst [x48, x51]).bind fun x52 =>
                    (gev none .app [(e23.getD 1 .undef), x52]).bind fun x53 =>
                    some (0, [x53])) (
                    some (0, [(e23.getD 1 .undef)]))) fun e41 =>
                (gev none (.iar .add .i64) [(e23.getD 2 .undef), (.int 1)]).bind fun x42 =>
                some (0, [x39, (e41.getD 0 .undef), x42])) (
                some (1, [(e23.getD 0 .undef), (e23.getD 1 .undef), (e23.getD 2 .undef), x26]))
def S470L1 (G : Told) (fuel : Nat) (x0 : D) (x1 : D) (x2 : D) (x3 : D) (x18 : D) : List D → Option (Nat × List D) := fun e19 =>
        (gev none (.icm .lss) [(e19.getD 2 .undef), x18]).bind fun x22 =>
        tif x22 (
          tjoin 4 (
            iter (tbody 3 (S470L0 G x0 x1 x2 x3 e19)) fuel [(e19.getD 0 .undef), (e19.getD 1 .undef), (.int 0)]) fun e23 =>
          (gev none (.iar .add .i64) [(e19.getD 2 .undef), (.int 1)]).bind fun x27 =>
          some (0, [(e23.getD 0 .undef), (e23.getD 1 .undef), x27])) (
          some (1, [(e19.getD 0 .undef), (e19.getD 1 .undef), (e19.getD 2 .undef), x22]))
def S470 (G : Told) (fuel : Nat) (x0 x1 x2 x3 : D) : Option (Nat × List D) :=
  (gcall G none 19 [x0, (.int 3), (.int 16)] 1).bind fun e4 =>
  (gev none .bnot [(e4.getD 0 .undef)]).bind fun x5 =>
  (gev (some (x5, false)) .id [x1]).bind fun x6 =>
  (gcall G (some (x5, false)) 19 [x6, (.int 1), (.int 64)] 1).bind fun e7 =>
  (gev (some (x5, false)) .bnot [(e7.getD 0 .undef)]).bind fun x8 =>
  (gev none .pick [x5, (.bool true), x8]).bind fun x9 =>
  (gev (some (x9, false)) .id [x2]).bind fun x10 =>
  (gcall G (some (x9, false)) 2 [x10] 1).bind fun e11 =>
  (gev (some (x9, false)) .bnot [(e11.getD 0 .undef)]).bind fun x12 =>
  (gev none .pick [x9, (.bool true), x12]).bind fun x13 =>
  (gev (some (x13, false)) .id [x3]).bind fun x14 =>
  (gcall G (some (x13, false)) 2 [x14] 1).bind fun e15 =>
  (gev (some (x13, false)) .bnot [(e15.getD 0 .undef)]).bind fun x16 =>
  (gev none .pick [x13, (.bool true), x16]).bind fun x17 =>
  tif x17 (
    some (0, [(.lst []), (.lst []), (.bool false)])) (
    (gev none (.iar .add .i64) [x1, (.int 1)]).bind fun x18 =>
    tjoin 4 (
      iter (tbody 3 (S470L1 G fuel x0 x1 x2 x3 x18)) fuel [(.lst []), (.lst []), (.int 0)]) fun e19 =>
    (gcall G none 478 [(e19.getD 0 .undef), (e19.getD 1 .undef)] 3).bind fun e23 =>
    some (0, [(e23.getD 0 .undef), (e23.getD 1 .undef), (e23.getD 2 .undef)]))
theorem eq470 {G : Told} {fuel : Nat} (x0 x1 x2 x3 : D) : run G fuel T470 [x0, x1, x2, x3] = S470 G fuel x0 x1 x2 x3 := by
  rw [run_eq]; kernel_rfl

def T472 : T :=
(.call none 470 [(.v 0), (.v 1), (.v 2), (.c (.flt 1065353216))] 3 <|
(.call none 317 [(.v 2), (.v 3)] 2 <|
(.op none .bnot [(.v 6)] <|
(.op (some ((.v 9), false)) .id [(.v 8)] <|
(.op (some ((.v 9), false)) .bnot [(.v 10)] <|
(.op none .pick [(.v 9), (.c (.bool true)), (.v 11)] <|
(.ite (.v 12)
  (.out 0 [(.c (.lst [])), (.c (.lst [])), (.c (.bool false))])
  (.op none .len [(.v 4)] <|
  (.join 3
    (.loop [(.v 4), (.c (.int 0))]
      (.op none (.icm .lss) [(.v 15), (.v 13)] <|
      (.ite (.v 16)
        (.op none (.idv .quo .i64) [(.v 15), (.v 0)] <|
        (.op none (.idv .rem .i64) [(.v 15), (.v 0)] <|
        (.op none (.i2f .f32) [(.v 18)] <|
        (.op none (.i2f .f32) [(.v 0)] <|
        (.op none (.far .quo .f32) [(.v 19), (.v 20)] <|
        (.op none (.i2f .f32) [(.v 17)] <|
        (.op none (.i2f .f32) [(.v 1)] <|
        (.op none (.far .quo .f32) [(.v 22), (.v 23)] <|
        (.op none (.far .mul .f32) [(.v 3), (.v 24)] <|
        (.op none (.far .quo .f32) [(.v 3), (.c (.flt 1073741824))] <|
        (.op none (.far .sub .f32) [(.v 25), (.v 26)] <|
        (.call none 315 [(.v 7), (.v 27)] 2 <|
        (.op none .bnot [(.v 29)] <|
        (.ite (.v 30)
          (.out 2 [(.c (.lst [])), (.c (.lst [])), (.c (.bool false))])
          (.op none (.icm .eql) [(.v 17), (.c (.int 0))] <|
          (.op (some ((.v 31), false)) .id [(.v 17)] <|
          (.op (some ((.v 31), false)) .id [(.v 1)] <|
          (.op (some ((.v 31), false)) (.icm .eql) [(.v 32), (.v 33)] <|
          (.op none .pick [(.v 31), (.c (.bool true)), (.v 34)] <|
          (.join 1
            (.ite (.v 35)
              (.out 0 [(.v 2)])
              (.out 0 [(.v 28)]))
          (.op none (.far .add .f32) [(.v 21), (.c (.flt 1048576000))] <|
          (.call none 474 [(.v 37)] 1 <|
          (.op none (.far .mul .f32) [(.v 36), (.v 38)] <|
          (.call none 474 [(.v 21)] 1 <|
          (.op none (.far .mul .f32) [(.v 36), (.v 40)] <|
          (.op none .idx [(.v 14), (.v 15)] <|
          (.op none .mkagg [(.v 39), (.v 41), (.v 27)] <|
          (.op none .set [(.v 14), (.v 15), (.v 43)] <|
          (.op none (.iar .add .i64) [(.v 15), (.c (.int 1))] <|
          (.out 0 [(.v 44), (.v 45)]))))))))))))))))))))))))))))))
        (.out 1 [(.v 14), (.v 15), (.v 16)]))))
  (.out 0 [(.v 14), (.v 5), (.c (.bool true))]))))))))))
def S472L0 (G : Told) (x0 : D) (x1 : D) (x2 : D) (x3 : D) (e7 : List D) (x13 : D) : List D → Option (Nat × List D) := fun e14 =>
        (gev none (.icm .lss) [(e14.getD 1 .undef), x13]).bind fun x16 =>
        tif x16 (
          (gev none (.idv .quo .i64) [(e14.getD 1 .undef), x0]).bind fun x17 =>
          (gev none (.idv .rem .i64) [(e14.getD 1 .undef), x0]).bind fun x18 =>
          (gev none (.i2f .f32) [x18]).bind fun x19 =>
          (gev none (.i2f .f32) [x0]).bind fun x20 =>
          (gev none (.far .quo .f32) [x19, x20]).bind fun x21 =>
          (gev none (.i2f .f32) [x17]).bind fun x22 =>
          (gev none (.i2f .f32) [x1]).bind fun x23 =>
          (gev none (.far .quo .f32) [x22, x23]).bind fun x24 =>
          (gev none (.far .mul .f32) [x3, x24]).bind fun x25 =>
          (gev none (.far .quo .f32) [x3, (.flt 1073741824)]).bind fun x26 =>
          (gev none (.far .sub .f32) [x25, x26]).bind fun x27 =>
          (gcall G none 315 [(e7.getD 0 .undef), x27] 2).bind fun e28 =>
          (gev none .bnot [(e28.getD 1 .undef)]).bind fun x30 =>
          tif x30 (
            some (2, [(.lst []), (.lst []), (.bool false)])) (
            (gev none (.icm .eql) [x17, (.int 0)]).bind fun x31 =>
            (gev (some (x31, false)) .id [x17]).bind fun x32 =>
            (gev (some (x31, false)) .id [x1]).bind fun x33 =>
            (gev (some (x31, false)) (.icm .eql) [x32, x33]).bind fun x34 =>
            (gev none .pick [x31, (.bool true), x34]).bind fun x35 =>
            tjoin 1 (
              tif x35 (
                some (0, [x2])) (
                some (0, [(e28.getD 0 .undef)]))) fun e36 =>
            (gev none (.far .add .f32) [x21, (.flt 1048576000)]).bind fun x37 =>
            (gcall G none 474 [x37] 1).bind fun e38 =>
            (gev none (.far .mul .f32) [(e36.getD 0 .undef), (e38.getD 0 .undef)]).bind fun x39 =>
            (gcall G none 474 [x21] 1).bind fun e40 =>
            (gev none (.far .mul .f32) [(e36.getD 0 .undef), (e40.getD 0 .undef)]).bind fun x41 =>
            (gev none .idx [(e14.getD 0 .undef), (e14.getD 1 .undef)]).bind fun _x42 =>
            (gev none .mkagg [x39, x41, x27]).bind fun x43 =>
            (gev none .set [(e14.getD 0 .undef), (e14.getD 1 .undef), x43]).bind fun x44 =>
            (gev none (.iar .add .i64) [(e14.getD 1 .undef), (.int 1)]).bind fun x45 =>
            some (0, [x44, x45]))) (
          some (1, [(e14.getD 0 .undef), (e14.getD 1 .undef), x16]))
def S472 (G : Told) (fuel : Nat) (x0 x1 x2 x3 : D) : Option (Nat × List D) :=
  (gcall G none 470 [x0, x1, x2, (.flt 1065353216)] 3).bind fun e4 =>
  (gcall G none 317 [x2, x3] 2).bind fun e7 =>
  (gev none .bnot [(e4.getD 2 .undef)]).bind fun x9 =>
  (gev (some (x9, false)) .id [(e7.getD 1 .undef)]).bind fun x10 =>
  (gev (some (x9, false)) .bnot [x10]).bind fun x11 =>
  (gev none .pick [x9, (.bool true), x11]).bind fun x12 =>
  tif x12 (
    some (0, [(.lst []), (.lst []), (.bool false)])) (
    (gev none .len [(e4.getD 0 .undef)]).bind fun x13 =>
    tjoin 3 (
      iter (tbody 2 (S472L0 G x0 x1 x2 x3 e7 x13)) fuel [(e4.getD 0 .undef), (.int 0)]) fun e14 =>
    some (0, [(e14.getD 0 .undef), (e4.getD 1 .undef), (.bool true)]))
theorem eq472 {G : Told} {fuel : Nat} (x0 x1 x2 x3 : D) : run G fuel T472 [x0, x1, x2, x3] = S472 G fuel x0 x1 x2 x3 := by
  rw [run_eq]; kernel_rfl

attribute [local irreducible] fadd fsub fmul fdiv fneg finP overP feq flt fle fgt fge i2f f2i wide f2f ibits canon vl il tl totL szM triP validP sinQ sin0 ringV ringA triA filV filA filZ filW widthO neckO sOk sineO IntKind.wrap tif tjoin

theorem run478 {G : Told} (g150 : G 150 = F150) : ∀ ds rs, F478 ds = some rs → ∃ fuel, run G fuel T478 ds = some (0, rs) := by
  intro ds rs h
  unfold F478 at h
  split at h
  case h_2 => cases h
  rename_i a b
  obtain ⟨r, hr, h⟩ := Option.bind_eq_some_iff.1 h
  split at h
  case h_2 => cases h
  rename_i v
  simp only [Option.some.injEq] at h
  subst h
  refine ⟨0, ?_⟩
  rw [eq478]
  unfold S478
  cases v
  · rw [if_neg (by simp)]
    repeat' first
      | with_reducible refine st_ift ?_
      | with_reducible refine st_iff ?_
      | ((with_reducible apply st_call); exact g150; exact rfl; exact hr; exact rfl)
      | ((with_reducible apply st_callt); assumption; exact rfl; exact rfl; assumption)
      | ((with_reducible apply st_callf); assumption; exact rfl; exact rfl; assumption)
      | ((with_reducible apply st_call); assumption; exact rfl; exact rfl; exact rfl)
      | ((with_reducible apply st_wide); exact rfl; exact rfl)
      | ((with_reducible apply st_skip); exact rfl)
      | ((with_reducible apply st_t); exact rfl; exact rfl)
      | ((with_reducible apply st_f); exact rfl; exact rfl)
      | ((with_reducible apply st_t); exact rfl; assumption)
      | ((with_reducible apply st_f); exact rfl; assumption)
      | ((with_reducible apply st_some); exact rfl)
      | exact rfl
  · rw [if_pos rfl]
    repeat' first
      | with_reducible refine st_ift ?_
      | with_reducible refine st_iff ?_
      | ((with_reducible apply st_call); exact g150; exact rfl; exact hr; exact rfl)
      | ((with_reducible apply st_callt); assumption; exact rfl; exact rfl; assumption)
      | ((with_reducible apply st_callf); assumption; exact rfl; exact rfl; assumption)
      | ((with_reducible apply st_call); assumption; exact rfl; exact rfl; exact rfl)
      | ((with_reducible apply st_wide); exact rfl; exact rfl)
      | ((with_reducible apply st_skip); exact rfl)
      | ((with_reducible apply st_t); exact rfl; exact rfl)
      | ((with_reducible apply st_f); exact rfl; exact rfl)
      | ((with_reducible apply st_t); exact rfl; assumption)
      | ((with_reducible apply st_f); exact rfl; assumption)
      | ((with_reducible apply st_some); exact rfl)
      | exact rfl
set_option maxHeartbeats 4000000 in
theorem in470 {G : Told} (g474 : G 474 = F474) {n R r rad st : Nat} (h3 : 3 ≤ n) (h16 : n ≤ 16) (hR : R ≤ 64) (hr : r < R) :
    iter (tbody 3 (S470L0 G (.int n) (.int R) (.flt rad) (.flt st) [vl (ringA n rad st (r * n)), tl (triA n (r * n)), .int r])) (n + 1) [vl (ringA n rad st (r * n)), tl (triA n (r * n)), .int 0] = some (0, [vl (ringA n rad st ((r + 1) * n)), tl (triA n ((r + 1) * n)), .int n, .bool false]) := by
  have hnr : n * r ≤ 16 * 64 := Nat.mul_le_mul h16 (by omega)
  have h1 := iter_upto (body := tbody 3 (S470L0 G (.int n) (.int R) (.flt rad) (.flt st) [vl (ringA n rad st (r * n)), tl (triA n (r * n)), .int r])) (n := n) (l := 0) (ds := [vl (ringA n rad st ((r + 1) * n)), tl (triA n ((r + 1) * n)), .int n, .bool false])
    (fun k => [vl (ringA n rad st (r * n + k)), tl (triA n (r * n + k)), .int (k : Int)]) ?_ ?_
  · exact h1
  · intro k hk
    refine tb rfl ?_
    have h0 : decide ((k : Int) < (n : Int)) = true := by simpa using hk
    obtain ⟨q1, q2⟩ := q_call h3 h16 hk
    have p1 := mulN (a := n) (b := r) (by omega)
    have p2 := addN (a := k) (b := n * r) (by omega)
    have p3 := add1n (i := k) (by omega)
    have p4 := remN (a := k + 1) (b := n) (by omega)
    have hm : (k + 1) % n < n := Nat.mod_lt _ (by omega)
    have p5 := addN (a := (k + 1) % n) (b := n * r) (by omega)
    have p6 := addN (a := (k + 1) % n + n * r) (b := n) (by omega)
    have p7 := addN (a := k + n * r) (b := n) (by omega)
    have ht := app_tri (n := n) (r := r) (k := k) hk h16 (by omega)
    have hv := app_ring (n := n) (rad := rad) (st := st) (r := r) (k := k) hk h16 (by omega)
    have hrR : decide ((r : Int) < (R : Int)) = true := by simpa using hr
    unfold S470L0
    repeat' first
      | with_reducible refine st_ift ?_
      | with_reducible refine st_iff ?_
      | ((with_reducible apply st_call); exact g474; exact rfl; exact q1; exact rfl)
      | ((with_reducible apply st_call); exact g474; exact rfl; exact q2; exact rfl)
      | ((with_reducible apply st_some); exact hv)
      | ((with_reducible apply st_some); exact ht)
      | ((with_reducible apply st_some); exact p1)
      | ((with_reducible apply st_some); exact p2)
      | ((with_reducible apply st_some); exact p3)
      | ((with_reducible apply st_some); exact p4)
      | ((with_reducible apply st_some); exact p5)
      | ((with_reducible apply st_some); exact p6)
      | ((with_reducible apply st_some); exact p7)
      | ((with_reducible refine st_join (ds := [tl (triA n (r * n + k + 1))]) ?_ rfl ?_))
      | ((with_reducible apply st_callt); assumption; exact rfl; exact rfl; assumption)
      | ((with_reducible apply st_callf); assumption; exact rfl; exact rfl; assumption)
      | ((with_reducible apply st_call); assumption; exact rfl; exact rfl; exact rfl)
      | ((with_reducible apply st_wide); exact rfl; exact rfl)
      | ((with_reducible apply st_skip); exact rfl)
      | ((with_reducible apply st_t); exact rfl; exact rfl)
      | ((with_reducible apply st_f); exact rfl; exact rfl)
      | ((with_reducible apply st_t); exact rfl; assumption)
      | ((with_reducible apply st_f); exact rfl; assumption)
      | ((with_reducible apply st_some); exact rfl)
      | exact rfl
  · refine tb rfl ?_
    have h0 : decide ((n : Int) < (n : Int)) = false := by simp
    rw [Nat.succ_mul]
    unfold S470L0
    repeat' first
      | with_reducible refine st_ift ?_
      | with_reducible refine st_iff ?_
      | ((with_reducible apply st_callt); assumption; exact rfl; exact rfl; assumption)
      | ((with_reducible apply st_callf); assumption; exact rfl; exact rfl; assumption)
      | ((with_reducible apply st_call); assumption; exact rfl; exact rfl; exact rfl)
      | ((with_reducible apply st_wide); exact rfl; exact rfl)
      | ((with_reducible apply st_skip); exact rfl)
      | ((with_reducible apply st_t); exact rfl; exact rfl)
      | ((with_reducible apply st_f); exact rfl; exact rfl)
      | ((with_reducible apply st_t); exact rfl; assumption)
      | ((with_reducible apply st_f); exact rfl; assumption)
      | ((with_reducible apply st_some); exact rfl)
      | exact rfl

set_option maxHeartbeats 4000000 in
theorem in470e {G : Told} (g474 : G 474 = F474) {n R r rad st : Nat} (h3 : 3 ≤ n) (h16 : n ≤ 16) (hR : R ≤ 64) (hr : r = R) :
    iter (tbody 3 (S470L0 G (.int n) (.int R) (.flt rad) (.flt st) [vl (ringA n rad st (r * n)), tl (triA n (R * n)), .int r])) (n + 1) [vl (ringA n rad st (r * n)), tl (triA n (R * n)), .int 0] = some (0, [vl (ringA n rad st ((r + 1) * n)), tl (triA n (R * n)), .int n, .bool false]) := by
  have hnr : n * r ≤ 16 * 64 := Nat.mul_le_mul h16 (by omega)
  have h1 := iter_upto (body := tbody 3 (S470L0 G (.int n) (.int R) (.flt rad) (.flt st) [vl (ringA n rad st (r * n)), tl (triA n (R * n)), .int r])) (n := n) (l := 0) (ds := [vl (ringA n rad st ((r + 1) * n)), tl (triA n (R * n)), .int n, .bool false])
    (fun k => [vl (ringA n rad st (r * n + k)), tl (triA n (R * n)), .int (k : Int)]) ?_ ?_
  · exact h1
  · intro k hk
    refine tb rfl ?_
    have h0 : decide ((k : Int) < (n : Int)) = true := by simpa using hk
    obtain ⟨q1, q2⟩ := q_call h3 h16 hk
    have p1 := mulN (a := n) (b := r) (by omega)
    have p2 := addN (a := k) (b := n * r) (by omega)
    have p3 := add1n (i := k) (by omega)
    have p4 := remN (a := k + 1) (b := n) (by omega)
    have hm : (k + 1) % n < n := Nat.mod_lt _ (by omega)
    have p5 := addN (a := (k + 1) % n) (b := n * r) (by omega)
    have p6 := addN (a := (k + 1) % n + n * r) (b := n) (by omega)
    have p7 := addN (a := k + n * r) (b := n) (by omega)
    have ht := app_tri (n := n) (r := r) (k := k) hk h16 (by omega)
    have hv := app_ring (n := n) (rad := rad) (st := st) (r := r) (k := k) hk h16 (by omega)
    have hrR : decide ((r : Int) < (R : Int)) = false := by simp; omega
    unfold S470L0
    repeat' first
      | with_reducible refine st_ift ?_
      | with_reducible refine st_iff ?_
      | ((with_reducible apply st_call); exact g474; exact rfl; exact q1; exact rfl)
      | ((with_reducible apply st_call); exact g474; exact rfl; exact q2; exact rfl)
      | ((with_reducible apply st_some); exact hv)
      | ((with_reducible apply st_some); exact p1)
      | ((with_reducible apply st_some); exact p2)
      | ((with_reducible apply st_some); exact p3)
      | ((with_reducible apply st_some); exact p4)
      | ((with_reducible apply st_some); exact p5)
      | ((with_reducible apply st_some); exact p6)
      | ((with_reducible apply st_some); exact p7)
      | ((with_reducible refine st_join (ds := [tl (triA n (R * n))]) ?_ rfl ?_))
      | ((with_reducible apply st_callt); assumption; exact rfl; exact rfl; assumption)
      | ((with_reducible apply st_callf); assumption; exact rfl; exact rfl; assumption)
      | ((with_reducible apply st_call); assumption; exact rfl; exact rfl; exact rfl)
      | ((with_reducible apply st_wide); exact rfl; exact rfl)
      | ((with_reducible apply st_skip); exact rfl)
      | ((with_reducible apply st_t); exact rfl; exact rfl)
      | ((with_reducible apply st_f); exact rfl; exact rfl)
      | ((with_reducible apply st_t); exact rfl; assumption)
      | ((with_reducible apply st_f); exact rfl; assumption)
      | ((with_reducible apply st_some); exact rfl)
      | exact rfl
  · refine tb rfl ?_
    have h0 : decide ((n : Int) < (n : Int)) = false := by simp
    rw [Nat.succ_mul]
    unfold S470L0
    repeat' first
      | with_reducible refine st_ift ?_
      | with_reducible refine st_iff ?_
      | ((with_reducible apply st_callt); assumption; exact rfl; exact rfl; assumption)
      | ((with_reducible apply st_callf); assumption; exact rfl; exact rfl; assumption)
      | ((with_reducible apply st_call); assumption; exact rfl; exact rfl; exact rfl)
      | ((with_reducible apply st_wide); exact rfl; exact rfl)
      | ((with_reducible apply st_skip); exact rfl)
      | ((with_reducible apply st_t); exact rfl; exact rfl)
      | ((with_reducible apply st_f); exact rfl; exact rfl)
      | ((with_reducible apply st_t); exact rfl; assumption)
      | ((with_reducible apply st_f); exact rfl; assumption)
      | ((with_reducible apply st_some); exact rfl)
      | exact rfl

set_option maxHeartbeats 4000000 in
theorem out470 {G : Told} (g474 : G 474 = F474) {n R rad st : Nat} (h3 : 3 ≤ n) (h16 : n ≤ 16) (hR : R ≤ 64) :
    iter (tbody 3 (S470L1 G 100 (.int n) (.int R) (.flt rad) (.flt st) (.int ((R + 1 : Nat) : Int)))) 100 [vl (ringA n rad st 0), tl (triA n 0), .int 0] = some (0, [vl (ringA n rad st ((R + 1) * n)), tl (triA n (R * n)), .int ((R + 1 : Nat) : Int), .bool false]) := by
  have h1 := iter_upto (body := tbody 3 (S470L1 G 100 (.int n) (.int R) (.flt rad) (.flt st) (.int ((R + 1 : Nat) : Int)))) (n := R + 1) (l := 0) (ds := [vl (ringA n rad st ((R + 1) * n)), tl (triA n (R * n)), .int ((R + 1 : Nat) : Int), .bool false])
    (fun r => [vl (ringA n rad st (r * n)), tl (triA n (min r R * n)), .int (r : Int)]) ?_ ?_
  · have e0 : min 0 R * n = 0 := by rw [Nat.zero_min, Nat.zero_mul]
    rw [e0, Nat.zero_mul] at h1
    exact iter_fuel h1 (by omega)
  · intro r hr
    refine tb rfl ?_
    have h0 : decide ((r : Int) < ((R + 1 : Nat) : Int)) = true := by simp; omega
    have p3 := add1n (i := r) (by omega)
    by_cases hrR : r < R
    · rw [show min r R = r by omega, show min (r + 1) R = r + 1 by omega]
      have hl := iter_fuel (g := 100) (in470 (G := G) g474 (rad := rad) (st := st) h3 h16 hR hrR) (by omega)
      unfold S470L1
      repeat' first
        | with_reducible refine st_ift ?_
        | with_reducible refine st_iff ?_
        | ((with_reducible apply st_join); exact hl; exact rfl)
        | ((with_reducible apply st_some); exact p3)
        | ((with_reducible apply st_callt); assumption; exact rfl; exact rfl; assumption)
        | ((with_reducible apply st_callf); assumption; exact rfl; exact rfl; assumption)
        | ((with_reducible apply st_call); assumption; exact rfl; exact rfl; exact rfl)
        | ((with_reducible apply st_wide); exact rfl; exact rfl)
        | ((with_reducible apply st_skip); exact rfl)
        | ((with_reducible apply st_t); exact rfl; exact rfl)
        | ((with_reducible apply st_f); exact rfl; exact rfl)
        | ((with_reducible apply st_t); exact rfl; assumption)
        | ((with_reducible apply st_f); exact rfl; assumption)
        | ((with_reducible apply st_some); exact rfl)
        | exact rfl
    · have hrR : r = R := by omega
      rw [show min r R = R by omega, show min (r + 1) R = R by omega]
      have hl := iter_fuel (g := 100) (in470e (G := G) g474 (rad := rad) (st := st) h3 h16 hR hrR) (by omega)
      unfold S470L1
      repeat' first
        | with_reducible refine st_ift ?_
        | with_reducible refine st_iff ?_
        | ((with_reducible apply st_join); exact hl; exact rfl)
        | ((with_reducible apply st_some); exact p3)
        | ((with_reducible apply st_callt); assumption; exact rfl; exact rfl; assumption)
        | ((with_reducible apply st_callf); assumption; exact rfl; exact rfl; assumption)
        | ((with_reducible apply st_call); assumption; exact rfl; exact rfl; exact rfl)
        | ((with_reducible apply st_wide); exact rfl; exact rfl)
        | ((with_reducible apply st_skip); exact rfl)
        | ((with_reducible apply st_t); exact rfl; exact rfl)
        | ((with_reducible apply st_f); exact rfl; exact rfl)
        | ((with_reducible apply st_t); exact rfl; assumption)
        | ((with_reducible apply st_f); exact rfl; assumption)
        | ((with_reducible apply st_some); exact rfl)
        | exact rfl
  · refine tb rfl ?_
    have h0 : decide (((R + 1 : Nat) : Int) < ((R + 1 : Nat) : Int)) = false := by simp
    rw [show min (R + 1) R = R by omega]
    unfold S470L1
    repeat' first
      | with_reducible refine st_ift ?_
      | with_reducible refine st_iff ?_
      | ((with_reducible apply st_callt); assumption; exact rfl; exact rfl; assumption)
      | ((with_reducible apply st_callf); assumption; exact rfl; exact rfl; assumption)
      | ((with_reducible apply st_call); assumption; exact rfl; exact rfl; exact rfl)
      | ((with_reducible apply st_wide); exact rfl; exact rfl)
      | ((with_reducible apply st_skip); exact rfl)
      | ((with_reducible apply st_t); exact rfl; exact rfl)
      | ((with_reducible apply st_f); exact rfl; exact rfl)
      | ((with_reducible apply st_t); exact rfl; assumption)
      | ((with_reducible apply st_f); exact rfl; assumption)
      | ((with_reducible apply st_some); exact rfl)
      | exact rfl
set_option maxHeartbeats 4000000 in
theorem run470 {G : Told} (g2 : G 2 = F2) (g19 : G 19 = F19) (g474 : G 474 = F474) (g478 : G 478 = F478) : ∀ ds rs, F470 ds = some rs → ∃ fuel, run G fuel T470 ds = some (0, rs) := by
  intro ds rs h
  unfold F470 at h
  split at h
  case h_2 => cases h
  rename_i n R rad st
  simp only [Option.some.injEq] at h
  subst h
  refine ⟨100, ?_⟩
  rw [eq470]
  unfold S470
  cases b0 : (decide (3 ≤ n) && decide (n ≤ 16))
  case false =>
    have hk : ringOk n R rad st = false := by unfold ringOk ringB; rw [b0]; simp
    rw [hk, if_neg (by simp)]
    repeat' first
      | with_reducible refine st_ift ?_
      | with_reducible refine st_iff ?_
      | ((with_reducible apply st_callt); assumption; exact rfl; exact rfl; assumption)
      | ((with_reducible apply st_callf); assumption; exact rfl; exact rfl; assumption)
      | ((with_reducible apply st_call); assumption; exact rfl; exact rfl; exact rfl)
      | ((with_reducible apply st_wide); exact rfl; exact rfl)
      | ((with_reducible apply st_skip); exact rfl)
      | ((with_reducible apply st_t); exact rfl; exact rfl)
      | ((with_reducible apply st_f); exact rfl; exact rfl)
      | ((with_reducible apply st_t); exact rfl; assumption)
      | ((with_reducible apply st_f); exact rfl; assumption)
      | ((with_reducible apply st_some); exact rfl)
      | exact rfl
  cases b1 : (decide (1 ≤ R) && decide (R ≤ 64))
  case false =>
    have hk : ringOk n R rad st = false := by unfold ringOk ringB; rw [b0, b1]; simp
    rw [hk, if_neg (by simp)]
    repeat' first
      | with_reducible refine st_ift ?_
      | with_reducible refine st_iff ?_
      | ((with_reducible apply st_callt); assumption; exact rfl; exact rfl; assumption)
      | ((with_reducible apply st_callf); assumption; exact rfl; exact rfl; assumption)
      | ((with_reducible apply st_call); assumption; exact rfl; exact rfl; exact rfl)
      | ((with_reducible apply st_wide); exact rfl; exact rfl)
      | ((with_reducible apply st_skip); exact rfl)
      | ((with_reducible apply st_t); exact rfl; exact rfl)
      | ((with_reducible apply st_f); exact rfl; exact rfl)
      | ((with_reducible apply st_t); exact rfl; assumption)
      | ((with_reducible apply st_f); exact rfl; assumption)
      | ((with_reducible apply st_some); exact rfl)
      | exact rfl
  cases b2 : overP rad
  case false =>
    have hk : ringOk n R rad st = false := by unfold ringOk ringB; rw [b0, b1, b2]; simp
    rw [hk, if_neg (by simp)]
    repeat' first
      | with_reducible refine st_ift ?_
      | with_reducible refine st_iff ?_
      | ((with_reducible apply st_callt); assumption; exact rfl; exact rfl; assumption)
      | ((with_reducible apply st_callf); assumption; exact rfl; exact rfl; assumption)
      | ((with_reducible apply st_call); assumption; exact rfl; exact rfl; exact rfl)
      | ((with_reducible apply st_wide); exact rfl; exact rfl)
      | ((with_reducible apply st_skip); exact rfl)
      | ((with_reducible apply st_t); exact rfl; exact rfl)
      | ((with_reducible apply st_f); exact rfl; exact rfl)
      | ((with_reducible apply st_t); exact rfl; assumption)
      | ((with_reducible apply st_f); exact rfl; assumption)
      | ((with_reducible apply st_some); exact rfl)
      | exact rfl
  cases b3 : overP st
  case false =>
    have hk : ringOk n R rad st = false := by unfold ringOk ringB; rw [b0, b1, b2, b3]; simp
    rw [hk, if_neg (by simp)]
    repeat' first
      | with_reducible refine st_ift ?_
      | with_reducible refine st_iff ?_
      | ((with_reducible apply st_callt); assumption; exact rfl; exact rfl; assumption)
      | ((with_reducible apply st_callf); assumption; exact rfl; exact rfl; assumption)
      | ((with_reducible apply st_call); assumption; exact rfl; exact rfl; exact rfl)
      | ((with_reducible apply st_wide); exact rfl; exact rfl)
      | ((with_reducible apply st_skip); exact rfl)
      | ((with_reducible apply st_t); exact rfl; exact rfl)
      | ((with_reducible apply st_f); exact rfl; exact rfl)
      | ((with_reducible apply st_t); exact rfl; assumption)
      | ((with_reducible apply st_f); exact rfl; assumption)
      | ((with_reducible apply st_some); exact rfl)
      | exact rfl
  have hb : ringB n R = true := by unfold ringB; rw [b0, b1]; rfl
  have hk0 : ringOk n R rad st = validP ((R.toNat + 1) * n.toNat) (triA n.toNat (R.toNat * n.toNat)) := by unfold ringOk; rw [hb, b2, b3]; simp
  rw [hk0]
  have e71 : F471 [.int n, .int R, .flt rad, .flt st] = some [vl (ringA n.toNat rad st ((R.toNat + 1) * n.toNat)), tl (triA n.toNat (R.toNat * n.toNat))] := by
    simp only [F471]
    rw [if_pos hb]
  obtain ⟨n, R, rfl, rfl, h3, h16, h1, hR⟩ := ringB_inv hb
  simp only [Int.toNat_natCast] at e71 ⊢
  have ev : vl (ringA n rad st 0) = .lst [] := by unfold ringA vl; rfl
  have et : tl (triA n 0) = .lst [] := by unfold triA tl; rfl
  have hz := ring_sz (n := n) (rad := rad) (st := st) h16 hR
  have hF := F150_m hz
  rw [ringA_length] at hF
  have hG : F478 [vl (ringA n rad st ((R + 1) * n)), tl (triA n (R * n))] = some (if validP ((R + 1) * n) (triA n (R * n)) = true then [vl (ringA n rad st ((R + 1) * n)), tl (triA n (R * n)), .bool true] else [.lst [], .lst [], .bool false]) := by
    simp only [F478, hF, Option.bind_some]
  have p1 := add1n (i := R) (by omega)
  have l1 := out470 (G := G) g474 (rad := rad) (st := st) h3 h16 hR
  rw [ev, et] at l1
  cases hv : validP ((R + 1) * n) (triA n (R * n))
  · rw [hv, if_neg (by simp)] at hG
    rw [if_neg (by simp)]
    repeat' first
      | with_reducible refine st_ift ?_
      | with_reducible refine st_iff ?_
      | ((with_reducible apply st_join); exact l1; exact rfl)
      | ((with_reducible apply st_call); exact g478; exact rfl; exact hG; exact rfl)
      | ((with_reducible apply st_some); exact p1)
      | ((with_reducible apply st_callt); assumption; exact rfl; exact rfl; assumption)
      | ((with_reducible apply st_callf); assumption; exact rfl; exact rfl; assumption)
      | ((with_reducible apply st_call); assumption; exact rfl; exact rfl; exact rfl)
      | ((with_reducible apply st_wide); exact rfl; exact rfl)
      | ((with_reducible apply st_skip); exact rfl)
      | ((with_reducible apply st_t); exact rfl; exact rfl)
      | ((with_reducible apply st_f); exact rfl; exact rfl)
      | ((with_reducible apply st_t); exact rfl; assumption)
      | ((with_reducible apply st_f); exact rfl; assumption)
      | ((with_reducible apply st_some); exact rfl)
      | exact rfl
  · rw [hv, if_pos rfl] at hG
    rw [if_pos rfl]
    repeat' first
      | with_reducible refine st_ift ?_
      | with_reducible refine st_iff ?_
      | ((with_reducible apply st_join); exact l1; exact rfl)
      | ((with_reducible apply st_call); exact g478; exact rfl; exact hG; exact rfl)
      | ((with_reducible apply st_some); exact p1)
      | ((with_reducible apply st_callt); assumption; exact rfl; exact rfl; assumption)
      | ((with_reducible apply st_callf); assumption; exact rfl; exact rfl; assumption)
      | ((with_reducible apply st_call); assumption; exact rfl; exact rfl; exact rfl)
      | ((with_reducible apply st_wide); exact rfl; exact rfl)
      | ((with_reducible apply st_skip); exact rfl)
      | ((with_reducible apply st_t); exact rfl; exact rfl)
      | ((with_reducible apply st_f); exact rfl; exact rfl)
      | ((with_reducible apply st_t); exact rfl; assumption)
      | ((with_reducible apply st_f); exact rfl; assumption)
      | ((with_reducible apply st_some); exact rfl)
      | exact rfl
def mixA (n R rad gap l N i : Nat) : List V3 := (filA n R rad gap l N).take i ++ (ringA n rad 1065353216 N).drop i
theorem mixA_length {n R rad gap l N i : Nat} (h : i ≤ N) : (mixA n R rad gap l N i).length = N := by
  unfold mixA
  rw [List.length_append, List.length_take, List.length_drop, filA_length, ringA_length]
  omega
theorem mixA_0 (n R rad gap l N : Nat) : mixA n R rad gap l N 0 = ringA n rad 1065353216 N := by unfold mixA; simp
theorem mixA_N (n R rad gap l N : Nat) : mixA n R rad gap l N N = filA n R rad gap l N := by
  unfold mixA
  rw [List.take_of_length_le (by rw [filA_length]; exact Nat.le_refl _), List.drop_of_length_le (by rw [ringA_length]; exact Nat.le_refl _)]
  simp
theorem mixA_idx {n R rad gap l N i : Nat} (h : i < N) : ∃ d, gev none .idx [vl (mixA n R rad gap l N i), .int i] = some d := ⟨_, idx_vl (by rw [mixA_length (by omega)]; exact h)⟩
theorem mixA_set {n R rad gap l N i : Nat} (h : i < N) : gev none .set [vl (mixA n R rad gap l N i), .int i, vec (filV n R rad gap l i)] = some (vl (mixA n R rad gap l N (i + 1))) := by
  have hs := set_vl (l := mixA n R rad gap l N i) (i := i) (v := filV n R rad gap l i) (by rw [mixA_length (by omega)]; exact h)
  have hm := mix_set (a := filA n R rad gap l N) (b := ringA n rad 1065353216 N) (i := i) (by rw [filA_length, ringA_length]) (by rw [filA_length]; exact h)
  rw [filA_get] at hm
  unfold mixA at hs ⊢
  rw [hm] at hs
  exact hs
theorem filW_eq {R rad gap l r w : Nat} (h : widthO l (filZ R gap r) = some w) : filW R rad gap l r = if r = 0 ∨ r = R then rad else w := by
  unfold filW
  rw [h]
  rfl
theorem below {n R r k : Nat} (h : r * n + k < (R + 1) * n) : r ≤ R := by
  by_cases hr : r ≤ R
  · exact hr
  · have := Nat.mul_le_mul_right n (show R + 1 ≤ r by omega)
    omega
attribute [local irreducible] mixA

set_option maxHeartbeats 4000000 in
theorem loop472 {G : Told} (g474 : G 474 = F474) (g315 : G 315 = F315) {n R rad gap l : Nat} (ho : overP rad = true) (hg : overP gap = true) (hn : neckO rad gap = some (some l)) (hR : R < 21) (h1 : 1 ≤ R) (h3 : 3 ≤ n) (h16 : n ≤ 16) :
    iter (tbody 2 (S472L0 G (.int n) (.int R) (.flt rad) (.flt gap) [.flt l, .bool true] (.int (((R + 1) * n : Nat) : Int)))) ((R + 1) * n + 1) [vl (ringA n rad 1065353216 ((R + 1) * n)), .int 0] = some (0, [vl (filA n R rad gap l ((R + 1) * n)), .int (((R + 1) * n : Nat) : Int), .bool false]) := by
  have hN : (R + 1) * n ≤ 21 * 16 := Nat.mul_le_mul (by omega) h16
  have h1' := iter_upto (body := tbody 2 (S472L0 G (.int n) (.int R) (.flt rad) (.flt gap) [.flt l, .bool true] (.int (((R + 1) * n : Nat) : Int)))) (n := (R + 1) * n) (l := 0) (ds := [vl (filA n R rad gap l ((R + 1) * n)), .int (((R + 1) * n : Nat) : Int), .bool false])
    (fun i => [vl (mixA n R rad gap l ((R + 1) * n) i), .int (i : Int)]) ?_ ?_
  · rw [mixA_0] at h1'
    exact h1'
  · intro i hi
    refine tb rfl ?_
    have h0 : decide ((i : Int) < (((R + 1) * n : Nat) : Int)) = true := by simp only [decide_eq_true_eq]; omega
    obtain ⟨r, k, hk, rfl⟩ : ∃ r k, k < n ∧ i = r * n + k := ⟨i / n, i % n, Nat.mod_lt _ (by omega), by rw [Nat.mul_comm]; exact (Nat.div_add_mod i n).symm⟩
    have hrR := below hi
    obtain ⟨q1, q2⟩ := q_call h3 h16 hk
    obtain ⟨hlo, w, hw⟩ := film_ok ho hg hn hR h1 hrR
    have hfw := filW_eq (rad := rad) hw
    have hsv : gev none .set [vl (mixA n R rad gap l ((R + 1) * n) (r * n + k)), .int ((r * n + k : Nat) : Int), .agg [.flt (fmul .f32 (filW R rad gap l r) (sinQ n k)), .flt (fmul .f32 (filW R rad gap l r) (sin0 n k)), .flt (filZ R gap r)]] = some (vl (mixA n R rad gap l ((R + 1) * n) (r * n + k + 1))) := by
      have := mixA_set (n := n) (R := R) (rad := rad) (gap := gap) (l := l) hi
      rw [filV_at hk] at this
      exact this
    obtain ⟨dx, hx⟩ := mixA_idx (n := n) (R := R) (rad := rad) (gap := gap) (l := l) hi
    rw [hfw] at hsv
    have p1 := quoN (a := r * n + k) (b := n) (by omega) (by omega)
    have p2 := remN (a := r * n + k) (b := n) (by omega)
    rw [(dm hk).1] at p1
    rw [(dm hk).2] at p2
    have p3 := add1n (i := r * n + k) (by omega)
    have ph := gev_half gap
    have e315 : F315 [.flt l, .flt (filZ R gap r)] = some [.flt w, .bool true] := by
      simp only [F315]
      rw [if_pos hlo, hw]
      rfl
    unfold filZ at hsv e315
    by_cases r0 : r = 0
    · rw [if_pos (Or.inl r0)] at hsv
      have c1 : gev none (.icm .eql) [.int (r : Int), .int 0] = some (.bool true) := by simp [gev, gok, Prim.ev, icmp, r0]
      unfold S472L0
      repeat' first
        | with_reducible refine st_ift ?_
        | with_reducible refine st_iff ?_
        | ((with_reducible apply st_call); exact g474; exact rfl; exact q1; exact rfl)
        | ((with_reducible apply st_call); exact g474; exact rfl; exact q2; exact rfl)
        | ((with_reducible apply st_call); exact g315; exact rfl; exact e315; exact rfl)
        | ((with_reducible apply st_some); exact p1)
        | ((with_reducible apply st_some); exact p2)
        | ((with_reducible apply st_some); exact p3)
        | ((with_reducible apply st_some); exact ph)
        | ((with_reducible apply st_some); exact hx)
        | ((with_reducible apply st_some); exact hsv)
        | ((with_reducible apply st_some); exact c1)
        | (with_reducible refine st_join (ds := [.flt rad]) ?_ ?_ ?_)
        | ((with_reducible apply st_callt); assumption; exact rfl; exact rfl; assumption)
        | ((with_reducible apply st_callf); assumption; exact rfl; exact rfl; assumption)
        | ((with_reducible apply st_call); assumption; exact rfl; exact rfl; exact rfl)
        | ((with_reducible apply st_wide); exact rfl; exact rfl)
        | ((with_reducible apply st_skip); exact rfl)
        | ((with_reducible apply st_t); exact rfl; exact rfl)
        | ((with_reducible apply st_f); exact rfl; exact rfl)
        | ((with_reducible apply st_t); exact rfl; assumption)
        | ((with_reducible apply st_f); exact rfl; assumption)
        | ((with_reducible apply st_some); exact rfl)
        | exact rfl
    have c1 : gev none (.icm .eql) [.int (r : Int), .int 0] = some (.bool false) := by simp [gev, gok, Prim.ev, icmp, r0]
    by_cases rR : r = R
    · rw [if_pos (Or.inr rR)] at hsv
      have c2 : gev (some (.bool false, false)) (.icm .eql) [.int (r : Int), .int (R : Int)] = some (.bool true) := by simp [gev, gok, Prim.ev, icmp, rR]
      unfold S472L0
      repeat' first
        | with_reducible refine st_ift ?_
        | with_reducible refine st_iff ?_
        | ((with_reducible apply st_call); exact g474; exact rfl; exact q1; exact rfl)
        | ((with_reducible apply st_call); exact g474; exact rfl; exact q2; exact rfl)
        | ((with_reducible apply st_call); exact g315; exact rfl; exact e315; exact rfl)
        | ((with_reducible apply st_some); exact p1)
        | ((with_reducible apply st_some); exact p2)
        | ((with_reducible apply st_some); exact p3)
        | ((with_reducible apply st_some); exact ph)
        | ((with_reducible apply st_some); exact hx)
        | ((with_reducible apply st_some); exact hsv)
        | ((with_reducible apply st_some); exact c1)
        | ((with_reducible apply st_some); exact c2)
        | (with_reducible refine st_join (ds := [.flt rad]) ?_ ?_ ?_)
        | ((with_reducible apply st_callt); assumption; exact rfl; exact rfl; assumption)
        | ((with_reducible apply st_callf); assumption; exact rfl; exact rfl; assumption)
        | ((with_reducible apply st_call); assumption; exact rfl; exact rfl; exact rfl)
        | ((with_reducible apply st_wide); exact rfl; exact rfl)
        | ((with_reducible apply st_skip); exact rfl)
        | ((with_reducible apply st_t); exact rfl; exact rfl)
        | ((with_reducible apply st_f); exact rfl; exact rfl)
        | ((with_reducible apply st_t); exact rfl; assumption)
        | ((with_reducible apply st_f); exact rfl; assumption)
        | ((with_reducible apply st_some); exact rfl)
        | exact rfl
    · rw [if_neg (by omega)] at hsv
      have c2 : gev (some (.bool false, false)) (.icm .eql) [.int (r : Int), .int (R : Int)] = some (.bool false) := by simp [gev, gok, Prim.ev, icmp]; omega
      unfold S472L0
      repeat' first
        | with_reducible refine st_ift ?_
        | with_reducible refine st_iff ?_
        | ((with_reducible apply st_call); exact g474; exact rfl; exact q1; exact rfl)
        | ((with_reducible apply st_call); exact g474; exact rfl; exact q2; exact rfl)
        | ((with_reducible apply st_call); exact g315; exact rfl; exact e315; exact rfl)
        | ((with_reducible apply st_some); exact p1)
        | ((with_reducible apply st_some); exact p2)
        | ((with_reducible apply st_some); exact p3)
        | ((with_reducible apply st_some); exact ph)
        | ((with_reducible apply st_some); exact hx)
        | ((with_reducible apply st_some); exact hsv)
        | ((with_reducible apply st_some); exact c1)
        | ((with_reducible apply st_some); exact c2)
        | (with_reducible refine st_join (ds := [.flt w]) ?_ ?_ ?_)
        | ((with_reducible apply st_callt); assumption; exact rfl; exact rfl; assumption)
        | ((with_reducible apply st_callf); assumption; exact rfl; exact rfl; assumption)
        | ((with_reducible apply st_call); assumption; exact rfl; exact rfl; exact rfl)
        | ((with_reducible apply st_wide); exact rfl; exact rfl)
        | ((with_reducible apply st_skip); exact rfl)
        | ((with_reducible apply st_t); exact rfl; exact rfl)
        | ((with_reducible apply st_f); exact rfl; exact rfl)
        | ((with_reducible apply st_t); exact rfl; assumption)
        | ((with_reducible apply st_f); exact rfl; assumption)
        | ((with_reducible apply st_some); exact rfl)
        | exact rfl
  · refine tb rfl ?_
    have h0 : decide ((((R + 1) * n : Nat) : Int) < (((R + 1) * n : Nat) : Int)) = false := by simp
    rw [mixA_N]
    unfold S472L0
    repeat' first
      | with_reducible refine st_ift ?_
      | with_reducible refine st_iff ?_
      | ((with_reducible apply st_callt); assumption; exact rfl; exact rfl; assumption)
      | ((with_reducible apply st_callf); assumption; exact rfl; exact rfl; assumption)
      | ((with_reducible apply st_call); assumption; exact rfl; exact rfl; exact rfl)
      | ((with_reducible apply st_wide); exact rfl; exact rfl)
      | ((with_reducible apply st_skip); exact rfl)
      | ((with_reducible apply st_t); exact rfl; exact rfl)
      | ((with_reducible apply st_f); exact rfl; exact rfl)
      | ((with_reducible apply st_t); exact rfl; assumption)
      | ((with_reducible apply st_f); exact rfl; assumption)
      | ((with_reducible apply st_some); exact rfl)
      | exact rfl
set_option maxHeartbeats 4000000 in
theorem run472 {G : Told} (g315 : G 315 = F315) (g317 : G 317 = F317) (g470 : G 470 = F470) (g474 : G 474 = F474) : ∀ ds rs, F472 ds = some rs → ∃ fuel, run G fuel T472 ds = some (0, rs) := by
  intro ds rs h
  unfold F472 at h
  split at h
  case h_2 => cases h
  rename_i n R rad gap
  simp only [Option.some.injEq] at h
  subst h
  refine ⟨400, ?_⟩
  rw [eq472]
  unfold S472
  have e70 : F470 [.int n, .int R, .flt rad, .flt 1065353216] = some (if ringOk n R rad 1065353216 = true then [vl (ringA n.toNat rad 1065353216 ((R.toNat + 1) * n.toNat)), tl (triA n.toNat (R.toNat * n.toNat)), .bool true] else [.lst [], .lst [], .bool false]) := rfl
  obtain ⟨a, b, e17⟩ := F317_some rad gap
  cases hk : ringOk n R rad 1065353216
  case false =>
    have hD : filmD n R rad gap = [.lst [], .lst [], .bool false] := by
      unfold filmD
      rw [hk]
      split <;> rfl
    rw [hD]
    rw [hk, if_neg (by simp)] at e70
    repeat' first
      | with_reducible refine st_ift ?_
      | with_reducible refine st_iff ?_
      | ((with_reducible apply st_call); exact g470; exact rfl; exact e70; exact rfl)
      | ((with_reducible apply st_call); exact g317; exact rfl; exact e17; exact rfl)
      | ((with_reducible apply st_callt); assumption; exact rfl; exact rfl; assumption)
      | ((with_reducible apply st_callf); assumption; exact rfl; exact rfl; assumption)
      | ((with_reducible apply st_call); assumption; exact rfl; exact rfl; exact rfl)
      | ((with_reducible apply st_wide); exact rfl; exact rfl)
      | ((with_reducible apply st_skip); exact rfl)
      | ((with_reducible apply st_t); exact rfl; exact rfl)
      | ((with_reducible apply st_f); exact rfl; exact rfl)
      | ((with_reducible apply st_t); exact rfl; assumption)
      | ((with_reducible apply st_f); exact rfl; assumption)
      | ((with_reducible apply st_some); exact rfl)
      | exact rfl
  rw [hk, if_pos rfl] at e70
  have e17' := e17
  simp only [F317] at e17'
  cases b
  case false =>
    have hD : filmD n R rad gap = [.lst [], .lst [], .bool false] := by
      unfold filmD filmN
      split at e17'
      · rename_i hc
        rw [if_pos hc]
        obtain ⟨o, ho, hl⟩ := Option.map_eq_some_iff.1 e17'
        rw [ho]
        cases o with
        | none => rfl
        | some l => simp [neckD] at hl
      · rename_i hc
        rw [if_neg hc]
    rw [hD]
    repeat' first
      | with_reducible refine st_ift ?_
      | with_reducible refine st_iff ?_
      | ((with_reducible apply st_call); exact g470; exact rfl; exact e70; exact rfl)
      | ((with_reducible apply st_call); exact g317; exact rfl; exact e17; exact rfl)
      | ((with_reducible apply st_callt); assumption; exact rfl; exact rfl; assumption)
      | ((with_reducible apply st_callf); assumption; exact rfl; exact rfl; assumption)
      | ((with_reducible apply st_call); assumption; exact rfl; exact rfl; exact rfl)
      | ((with_reducible apply st_wide); exact rfl; exact rfl)
      | ((with_reducible apply st_skip); exact rfl)
      | ((with_reducible apply st_t); exact rfl; exact rfl)
      | ((with_reducible apply st_f); exact rfl; exact rfl)
      | ((with_reducible apply st_t); exact rfl; assumption)
      | ((with_reducible apply st_f); exact rfl; assumption)
      | ((with_reducible apply st_some); exact rfl)
      | exact rfl
  split at e17'
  case isFalse => simp at e17'
  rename_i hc
  obtain ⟨o, ho, hl⟩ := Option.map_eq_some_iff.1 e17'
  cases o with
  | none => simp [neckD] at hl
  | some l =>
    simp only [neckD, List.cons.injEq, D.flt.injEq, and_true] at hl
    subst hl
    have hD : filmD n R rad gap = [vl (filA n.toNat R.toNat rad gap l ((R.toNat + 1) * n.toNat)), tl (triA n.toNat (R.toNat * n.toNat)), .bool true] := by
      unfold filmD filmN
      rw [if_pos hc, ho, hk]
      rfl
    rw [hD]
    unfold ringOk at hk
    simp only [Bool.and_eq_true] at hk hc
    obtain ⟨⟨⟨hb, _⟩, _⟩, hv⟩ := hk
    obtain ⟨n, R, rfl, rfl, h3, h16, h1, _⟩ := ringB_inv hb
    simp only [Int.toNat_natCast] at e70 hv ⊢
    have hR : R < 21 := by
      unfold validP at hv
      simp only [Bool.and_eq_true, decide_eq_true_eq] at hv
      have h64 := hv.1.1
      have := Nat.mul_le_mul_left (R + 1) h3
      omega
    have hN : (R + 1) * n ≤ 21 * 16 := Nat.mul_le_mul (by omega) h16
    have hlen := len_vl (l := ringA n rad 1065353216 ((R + 1) * n))
    rw [ringA_length] at hlen
    have hloop := iter_fuel (g := 400) (loop472 (G := G) g474 g315 hc.1 hc.2 ho hR h1 h3 h16) (by omega)
    repeat' first
      | with_reducible refine st_ift ?_
      | with_reducible refine st_iff ?_
      | ((with_reducible apply st_call); exact g470; exact rfl; exact e70; exact rfl)
      | ((with_reducible apply st_call); exact g317; exact rfl; exact e17; exact rfl)
      | ((with_reducible apply st_join); exact hloop; exact rfl)
      | ((with_reducible apply st_some); exact hlen)
      | ((with_reducible apply st_callt); assumption; exact rfl; exact rfl; assumption)
      | ((with_reducible apply st_callf); assumption; exact rfl; exact rfl; assumption)
      | ((with_reducible apply st_call); assumption; exact rfl; exact rfl; exact rfl)
      | ((with_reducible apply st_wide); exact rfl; exact rfl)
      | ((with_reducible apply st_skip); exact rfl)
      | ((with_reducible apply st_t); exact rfl; exact rfl)
      | ((with_reducible apply st_f); exact rfl; exact rfl)
      | ((with_reducible apply st_t); exact rfl; assumption)
      | ((with_reducible apply st_f); exact rfl; assumption)
      | ((with_reducible apply st_some); exact rfl)
      | exact rfl
end Vs
