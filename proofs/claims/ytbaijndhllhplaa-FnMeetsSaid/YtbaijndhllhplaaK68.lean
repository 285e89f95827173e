/-
  Ways in quarters, read out of bytes; gaps.
-/
import Derived.Test.YtbaijndhllhplaaKm1
import Derived.Test.YtbaijndhllhplaaKq3
import Derived.Test.YtbaijndhllhplaaK10
import Derived.Test.YtbaijndhllhplaaB0
import Derived.Test.YtbaijndhllhplaaFm5
set_option maxHeartbeats 4000000
namespace Vs
open Go Go.Sort Ieee
noncomputable def F231 : List D → Option (List D)
 | [.flt x, .flt y] => (gev none (.fmax .f64) [.flt (fsub .f64 x y), .flt (fsub .f64 y x)]).map fun d => [d]
 | _ => none
theorem fmax_or {a b : Nat} (ha : rk .f64 a < inf .f64) (hb : rk .f64 b < inf .f64) : ∃ g, gev none (.fmax .f64) [.flt a, .flt b] = some (.flt g) ∧ (g = a ∨ g = b) := by
 have ho := order_R (k := .f64) ha hb
 simp only [gev, gok, if_true, Prim.ev]
 rw [ho]
 cases compare (sv .f64 a) (sv .f64 b) with
 | lt => exact ⟨b, rfl, .inr rfl⟩
 | gt => exact ⟨a, rfl, .inl rfl⟩
 | eq =>
  refine ⟨_, rfl, ?_⟩;split
  ·exact .inr rfl
  ·exact .inl rfl
def T231 : T :=
(oo (.far .sub .f64) [0, 1] <|
oo (.far .sub .f64) [1, 0] <|
oo (.fmax .f64) [2, 3] <|
.out 0 [4])
def S231 (_G : Told) (_fuel : Nat) (x0 x1 : D) : Option (Nat × List D) :=
 (gev none (.far .sub .f64) [x0, x1]).bind fun x2 =>
 (gev none (.far .sub .f64) [x1, x0]).bind fun x3 =>
 (gev none (.fmax .f64) [x2, x3]).bind fun x4 =>
 some (0, [x4])
theorem eq231 {G fuel} (x0 x1) : run G fuel T231 [x0, x1] = S231 G fuel x0 x1 := by rw [run_eq]; kernel_rfl
theorem run231 {G : Told} : Runs G F231 T231 := by
 intro ds rs h
 unfold F231 at h
 split at h
 case h_2 => cases h
 rename_i x y
 obtain ⟨d, hd, h⟩ := Option.map_eq_some_iff.1 h
 subst h
 refine ⟨0, ?_⟩
 rw [eq231]
 unfold S231
 refine st_some (show gev none (.far .sub .f64) [.flt x, .flt y] = some (.flt (fsub .f64 x y)) from rfl) ?_
 refine st_some (show gev none (.far .sub .f64) [.flt y, .flt x] = some (.flt (fsub .f64 y x)) from rfl) ?_
 exact st_some hd rfl
def qn (l : List Int) (i : Nat) (d : Int) : Int := if i < l.length then l.getD i 0 % 17 - 8 else d
def rvN (l : List Int) (k : Nat) : Int × Int × Int := (qn l k 4, qn l (k + 1) 2, qn l (k + 2) (-1))
def rvQ (l : List Int) (k : Nat) : Int × Int × Int := if rvN l k = (0, 0, 0) then (0, 0, 4) else rvN l k
def rvV (l : List Int) (k : Nat) : V3 := ⟨qf (rvQ l k).1, qf (rvQ l k).2.1, qf (rvQ l k).2.2⟩
open Classical in
noncomputable def F580 : List D → Option (List D)
 | [a, .int k] => (dI a).bind fun l => if (∀ x ∈ l, 0 ≤ x ∧ x ≤ 255) ∧ 0 ≤ k ∧ k ≤ 1000 then some (rvV l k.toNat).ds else none
 | _ => none
theorem F580_m {l : List Int} {k : Nat} (h : ∀ x ∈ l, 0 ≤ x ∧ x ≤ 255) (hk : k ≤ 1000) : F580 [il l, .int k] = some (rvV l k).ds := by
 simp only [F580, dI_il, Option.bind_some]
 rw [if_pos ⟨h, by omega, by omega⟩, Int.toNat_natCast]
theorem qn_r {l : List Int} {i : Nat} {d : Int} (h0 : -8 ≤ d) (h1 : d ≤ 8) : -8 ≤ qn l i d ∧ qn l i d ≤ 8 := by
 unfold qn
 split <;> omega
theorem rvQ_r (l : List Int) (k : Nat) : (-8 ≤ (rvQ l k).1 ∧ (rvQ l k).1 ≤ 8) ∧ (-8 ≤ (rvQ l k).2.1 ∧ (rvQ l k).2.1 ≤ 8) ∧ (-8 ≤ (rvQ l k).2.2 ∧ (rvQ l k).2.2 ≤ 8) ∧ rvQ l k ≠ (0, 0, 0) := by
 unfold rvQ
 split
 ·exact ⟨by decide, by decide, by decide, by decide⟩
 ·rename_i h
  exact ⟨qn_r (by decide) (by decide), qn_r (by decide) (by decide), qn_r (by decide) (by decide), h⟩
theorem qf_facts : ∀ n : Fin 17, rk .f32 (qf ((n.1 : Int) - 8)) ≤ 1073741824 ∧ sv .f32 (qf ((n.1 : Int) - 8)) * 4 = ((n.1 : Int) - 8) * (dn .f32 : Int) ∧ feq .f32 (qf ((n.1 : Int) - 8)) 0 = decide ((n.1 : Int) - 8 = 0) ∧ qf ((n.1 : Int) - 8) ∈ qL ∧
  Nat.beq (Nat.mod (qf ((n.1 : Int) - 8)) 2147483648) 0 = decide ((n.1 : Int) - 8 = 0) ∧ finP (qf ((n.1 : Int) - 8)) = true := by decide +kernel
theorem qf_at {n : Int} (h0 : -8 ≤ n) (h1 : n ≤ 8) : rk .f32 (qf n) ≤ 1073741824 ∧ sv .f32 (qf n) * 4 = n * (dn .f32 : Int) ∧ feq .f32 (qf n) 0 = decide (n = 0) ∧ qf n ∈ qL ∧ Nat.beq (Nat.mod (qf n) 2147483648) 0 = decide (n = 0) ∧ finP (qf n) = true := by
 have := qf_facts ⟨(n + 8).toNat, by omega⟩
 rwa [show (((⟨(n + 8).toNat, by omega⟩ : Fin 17).1 : Int) - 8) = n by show (((n + 8).toNat : Int) - 8) = n; omega] at this
theorem qf_end {n : Int} (h0 : -8 ≤ n) (h1 : n ≤ 8) : endN (qf n) := by
 obtain ⟨a, b, _⟩ := qf_at h0 h1
 refine ⟨a, n, ?_, h0, h1⟩
 have e := fr_mul .f32 (qf n)
 have b' : ((sv .f32 (qf n) * 4 : Int) : Rat) = ((n * (dn .f32 : Int) : Int) : Rat) := by rw [b]
 rw [Rat.intCast_mul, Rat.intCast_mul, ← e] at b'
 have c : ((4 : Int) : Rat) = 4 := rfl
 have c2 : (((dn .f32 : Nat) : Int) : Rat) = ((dn .f32 : Nat) : Rat) := rfl
 rw [c, c2] at b'
 refine mul_cancel (dn_pos .f32) ?_
 rw [← b']
 generalize (dn .f32 : Rat) = D
 grind
theorem rv_end (l : List Int) (k : Nat) : endV (rvV l k) := by
 obtain ⟨⟨a1, a2⟩, ⟨b1, b2⟩, ⟨c1, c2⟩, _⟩ := rvQ_r l k
 exact ⟨qf_end a1 a2, qf_end b1 b2, qf_end c1 c2⟩
theorem nil_q {i j k : Int} (a1 : -8 ≤ i) (a2 : i ≤ 8) (b1 : -8 ≤ j) (b2 : j ≤ 8) (c1 : -8 ≤ k) (c2 : k ≤ 8) : nilV ⟨qf i, qf j, qf k⟩ = decide ((i, j, k) = (0, 0, 0)) := by
 unfold nilV
 rw [(qf_at a1 a2).2.2.1, (qf_at b1 b2).2.2.1, (qf_at c1 c2).2.2.1]
 simp
theorem rv_good (l : List Int) (k : Nat) : badV (rvV l k) = false := by
 obtain ⟨⟨a1, a2⟩, ⟨b1, b2⟩, ⟨c1, c2⟩, hn⟩ := rvQ_r l k
 unfold badV
 rw [show nilV (rvV l k) = decide (((rvQ l k).1, (rvQ l k).2.1, (rvQ l k).2.2) = (0, 0, 0)) from nil_q a1 a2 b1 b2 c1 c2]
 rw [show ((rvQ l k).1, (rvQ l k).2.1, (rvQ l k).2.2) = rvQ l k from rfl, decide_eq_false hn]
 rw [show V3.fin (rvV l k) = true by
  unfold V3.fin rvV;rw [(qf_at a1 a2).2.2.2.2.2, (qf_at b1 b2).2.2.2.2.2, (qf_at c1 c2).2.2.2.2.2]
  rfl]
 rfl
def T580 : T :=
(oo .mklst [kF 1065353216, kF 1056964608, kF 3196059648] <|
.join 4
 (.loop [2, kI 0]
  (oo (.icm .lss) [4, kI 3] <|
  .ite 5
   (oo (.iar .add .i64) [1, 4] <|
   oo .len [0] <|
   oo (.icm .lss) [6, 7] <|
   .join 1
    (.ite 8
     (oo (.iar .add .i64) [1, 4] <|
     oo .idx [0, 9] <|
     oo (.i2i .i64) [10] <|
     oo (.idv .rem .i64) [11, kI 17] <|
     oo (.iar .sub .i64) [12, kI 8] <|
     oo (.i2f .f32) [13] <|
     oo (.far .quo .f32) [14, kF 1082130432] <|
     oo .idx [3, 4] <|
     oo .set [3, 4, 15] <|
     .out 0 [17])
     (.out 0 [3]))
   (oo (.iar .add .i64) [4, kI 1] <|
   .out 0 [9, 10]))
   (.out 1 [3, 4, 4, 5])))
(oo .idx [3, kI 0] <|
oo .idx [3, kI 0] <|
oo .idx [3, kI 1] <|
oo .idx [3, kI 1] <|
oo .idx [3, kI 2] <|
oo .idx [3, kI 2] <|
oo (.aeq [(some .f32), (some .f32), (some .f32)] false) [8, 10, 12, kF 0, kF 0, kF 0] <|
.join 1
 (.ite 13
  (.out 0 [kF 1065353216])
  (.out 0 [12]))
(.out 0 [8, 10, 14])))
def S580L0 (_G : Told) (x0 : D) (x1 : D) : List D → Option (Nat × List D) := fun e3 =>
   (gev none (.icm .lss) [e3.getD 1 .undef, .int 3]).bind fun x5 =>
   tif x5 (
    (gev none (.iar .add .i64) [x1, e3.getD 1 .undef]).bind fun x6 =>
    (gev none .len [x0]).bind fun x7 =>
    (gev none (.icm .lss) [x6, x7]).bind fun x8 =>
    tjoin 1 (
     tif x8 (
      (gev none (.iar .add .i64) [x1, e3.getD 1 .undef]).bind fun x9 =>
      (gev none .idx [x0, x9]).bind fun x10 =>
      (gev none (.i2i .i64) [x10]).bind fun x11 =>
      (gev none (.idv .rem .i64) [x11, .int 17]).bind fun x12 =>
      (gev none (.iar .sub .i64) [x12, .int 8]).bind fun x13 =>
      (gev none (.i2f .f32) [x13]).bind fun x14 =>
      (gev none (.far .quo .f32) [x14, .flt 1082130432]).bind fun x15 =>
      (gev none .idx [e3.getD 0 .undef, e3.getD 1 .undef]).bind fun _x16 =>
      (gev none .set [e3.getD 0 .undef, e3.getD 1 .undef, x15]).bind fun x17 =>
      some (0, [x17])) (
      some (0, [e3.getD 0 .undef]))) fun e9 =>
    (gev none (.iar .add .i64) [e3.getD 1 .undef, .int 1]).bind fun x10 =>
    some (0, [e9.getD 0 .undef, x10])) (
    some (1, [e3.getD 0 .undef, e3.getD 1 .undef, e3.getD 1 .undef, x5]))
def S580 (G : Told) (fuel : Nat) (x0 x1 : D) : Option (Nat × List D) :=
 (gev none .mklst [.flt 1065353216, .flt 1056964608, .flt 3196059648]).bind fun x2 =>
 tjoin 4 (
  iter (tbody 2 (S580L0 G x0 x1)) fuel [x2, .int 0]) fun e3 =>
 (gev none .idx [e3.getD 0 .undef, .int 0]).bind fun _x7 =>
 (gev none .idx [e3.getD 0 .undef, .int 0]).bind fun x8 =>
 (gev none .idx [e3.getD 0 .undef, .int 1]).bind fun _x9 =>
 (gev none .idx [e3.getD 0 .undef, .int 1]).bind fun x10 =>
 (gev none .idx [e3.getD 0 .undef, .int 2]).bind fun _x11 =>
 (gev none .idx [e3.getD 0 .undef, .int 2]).bind fun x12 =>
 (gev none (.aeq [(some .f32), (some .f32), (some .f32)] false) [x8, x10, x12, .flt 0, .flt 0, .flt 0]).bind fun x13 =>
 tjoin 1 (
  tif x13 (
   some (0, [.flt 1065353216])) (
   some (0, [x12]))) fun e14 =>
 some (0, [x8, x10, e14.getD 0 .undef])
theorem eq580 {G fuel} (x0 x1) : run G fuel T580 [x0, x1] = S580 G fuel x0 x1 := by rw [run_eq]; kernel_rfl
theorem b_lss {x y : Int} {b : Bool} (h : decide (x < y) = b) : gev none (.icm .lss) [.int x, .int y] = some (.bool b) := by rw [p_lss, h]
theorem b_rem17 {x : Int} : gev none (.idv .rem .i64) [.int x, .int 17] = some (.int (x.tmod 17)) := (rfl)
theorem b_i2i {x : Int} : gev none (.i2i .i64) [.int x] = some (.int (IntKind.wrap .i64 x)) := (rfl)
theorem b_i2f {x : Int} : gev none (.i2f .f32) [.int x] = some (.flt (i2f .f32 x)) := rfl
theorem b_quo {x y : Nat} : gev none (.far .quo .f32) [.flt x, .flt y] = some (.flt (fdiv .f32 x y)) := rfl
theorem b_addn {a b : Nat} (h : a + b ≤ 1000000) : gev none (.iar .add .i64) [.int a, .int b] = some (.int ((a + b : Nat) : Int)) := by
 rw [p_add]
 simp [IntKind.wrap, IntKind.signed, IntKind.bits]
 omega
theorem b_wrap {x : Int} (h0 : -1000 ≤ x) (h1 : x ≤ 1000) : IntKind.wrap .i64 x = x := by
 simp [IntKind.wrap, IntKind.signed, IntKind.bits]
 omega
attribute [local irreducible] tif tjoin IntKind.wrap il fl qf fdiv i2f

theorem step580 {G : Told} {l : List Int} (hl : ∀ x ∈ l, 0 ≤ x ∧ x ≤ 255) {k : Nat} (hk : k ≤ 1000) {xs : List Nat} {i : Nat} (hi : i < 3) (h3 : i < xs.length) {d : Int} (hd : xs[i] = qf d) :
  tbody 2 (S580L0 G (il l) (.int k)) [fl xs, .int i] = some (0, [fl (xs.set i (qf (qn l (k + i) d))), .int ((i + 1 : Nat) : Int)]) := by
 refine tb rfl ?_
 unfold S580L0
 refine st_some (b_lss (decide_eq_true (by omega))) ?_
 refine st_ift ?_
 refine st_some (b_addn (by omega)) ?_
 refine st_some len_il ?_
 by_cases h : k + i < l.length
 ·refine st_some (b_lss (decide_eq_true (by omega))) ?_
  have hx := hl _ (List.getElem_mem h);have e : qn l (k + i) d = l[k + i] % 17 - 8 := by unfold qn; rw [if_pos h, List.getD_eq_getElem?_getD, List.getElem?_eq_getElem h]; rfl
  refine st_join (ds := [fl (xs.set i (qf (qn l (k + i) d)))]) ?_ rfl ?_
  ·refine st_ift ?_
   refine st_some (b_addn (by omega)) ?_
   refine st_some (idx_il h) ?_;refine st_some b_i2i ?_;refine st_some b_rem17 ?_;refine st_some p_sub ?_;refine st_some b_i2f ?_;refine st_some b_quo ?_;refine st_some (idx_fl h3) ?_;refine st_some (set_fl h3) ?_;rw [b_wrap (x := l[k + i]) (by omega) (by omega)]
   have e2 : (l[k + i]).tmod 17 = l[k + i] % 17 := Int.tmod_eq_emod_of_nonneg hx.1;rw [e2, b_wrap (by omega) (by omega), ← e]
   with_unfolding_all rfl
  ·exact st_some (add1n (by omega)) rfl
 ·refine st_some (b_lss (decide_eq_false (by omega))) ?_
  have e : qn l (k + i) d = d := by unfold qn; rw [if_neg h]
  refine st_join (ds := [fl xs]) (st_iff rfl) rfl ?_;refine st_some (add1n (by omega)) ?_
  rw [e, ← hd, List.set_getElem_self];rfl
theorem qf_d : qf 4 = 1065353216 ∧ qf 2 = 1056964608 ∧ qf (-1) = 3196059648 ∧ qf 0 = 0 := by with_unfolding_all decide +kernel
theorem run580 {G : Told} : Runs G F580 T580 := by
 intro ds rs h
 unfold F580 at h
 split at h
 case h_2 => cases h
 rename_i a k
 obtain ⟨l, ha, h⟩ := Option.bind_eq_some_iff.1 h
 split at h
 case isFalse => cases h
 rename_i hc
 obtain ⟨hl, k0, k1⟩ := hc
 obtain ⟨n, rfl⟩ := Int.eq_ofNat_of_zero_le k0
 rw [Int.toNat_natCast] at h
 simp only [Option.some.injEq] at h
 subst h
 rw [dI_inv ha]
 refine ⟨4, ?_⟩
 rw [eq580]
 unfold S580
 obtain ⟨d4, d2, d1, d0⟩ := qf_d
 have hn : n ≤ 1000 := by omega
 have s0 := step580 (G := G) (k := n) hl hn (xs := [qf 4, qf 2, qf (-1)]) (i := 0) (by omega) (by simp) (d := 4) rfl
 have s1 := step580 (G := G) (k := n) hl hn (xs := [qf (qn l n 4), qf 2, qf (-1)]) (i := 1) (by omega) (by simp) (d := 2) rfl
 have s2 := step580 (G := G) (k := n) hl hn (xs := [qf (qn l n 4), qf (qn l (n + 1) 2), qf (-1)]) (i := 2) (by omega) (by simp) (d := -1) rfl
 have hm : gev none .mklst [.flt 1065353216, .flt 1056964608, .flt 3196059648] = some (fl [qf 4, qf 2, qf (-1)]) := by
  rw [d4, d2, d1]
  with_unfolding_all rfl
 refine st_some hm ?_
 refine st_join (ds := [fl [qf (qn l n 4), qf (qn l (n + 1) 2), qf (qn l (n + 2) (-1))], .int 3, .int 3, .bool false]) ?_ rfl ?_
 ·refine iter_go s0 ?_
  refine iter_go s1 ?_;refine iter_go s2 ?_;refine iter_end (l := 0) (ds' := [fl [qf (qn l n 4), qf (qn l (n + 1) 2), qf (qn l (n + 2) (-1))], .int 3, .int 3, .bool false]) ?_ rfl;refine tb rfl ?_;unfold S580L0;refine st_some (b_lss (decide_eq_false (by decide))) ?_
  exact st_iff rfl
 have q0 := qn_r (l := l) (i := n) (d := 4) (by decide) (by decide)
 have q1 := qn_r (l := l) (i := n + 1) (d := 2) (by decide) (by decide)
 have q2 := qn_r (l := l) (i := n + 2) (d := -1) (by decide) (by decide)
 have i0 : gev none .idx [fl [qf (qn l n 4), qf (qn l (n + 1) 2), qf (qn l (n + 2) (-1))], .int 0] = some (.flt (qf (qn l n 4))) := idx_fl (i := 0) (by simp)
 have i1 : gev none .idx [fl [qf (qn l n 4), qf (qn l (n + 1) 2), qf (qn l (n + 2) (-1))], .int 1] = some (.flt (qf (qn l (n + 1) 2))) := idx_fl (i := 1) (by simp)
 have i2 : gev none .idx [fl [qf (qn l n 4), qf (qn l (n + 1) 2), qf (qn l (n + 2) (-1))], .int 2] = some (.flt (qf (qn l (n + 2) (-1)))) := idx_fl (i := 2) (by simp)
 refine st_some i0 ?_
 refine st_some i0 ?_
 refine st_some i1 ?_
 refine st_some i1 ?_
 refine st_some i2 ?_
 refine st_some i2 ?_
 refine st_some (show gev none (.aeq [(some .f32), (some .f32), (some .f32)] false) [.flt (qf (qn l n 4)), .flt (qf (qn l (n + 1) 2)), .flt (qf (qn l (n + 2) (-1))), (.flt 0), (.flt 0), (.flt 0)] = some (.bool (nilV ⟨qf (qn l n 4), qf (qn l (n + 1) 2), qf (qn l (n + 2) (-1))⟩)) from rfl) ?_
 rw [nil_q q0.1 q0.2 q1.1 q1.2 q2.1 q2.2]
 have hv : rvV l n = if (qn l n 4, qn l (n + 1) 2, qn l (n + 2) (-1)) = (0, 0, 0) then ⟨qf 0, qf 0, qf 4⟩ else ⟨qf (qn l n 4), qf (qn l (n + 1) 2), qf (qn l (n + 2) (-1))⟩ := by unfold rvV rvQ rvN;split <;> rfl
 rw [hv]
 by_cases hz : (qn l n 4, qn l (n + 1) 2, qn l (n + 2) (-1)) = (0, 0, 0)
 ·rw [if_pos hz, decide_eq_true hz]
  simp only [Prod.mk.injEq] at hz;rw [hz.1, hz.2.1];refine st_join (ds := [.flt 1065353216]) (st_ift rfl) rfl ?_;rw [d4];rfl
 ·rw [if_neg hz, decide_eq_false hz]
  exact st_join (ds := [.flt (qf (qn l (n + 2) (-1)))]) (st_iff rfl) rfl rfl
end Vs
