/-
  Flips: the law.
-/
import Derived.Test.YtaakjnkllodchaaK51
import Derived.Test.YtaakjnkllodchaaB0
set_option maxHeartbeats 4000000
namespace Vs
open Go Go.Sort
open Classical in
noncomputable def F561 : List D → Option (List D)
 | [a, b] => (dI a).bind fun l => (dI b).bind fun m => if bytes l ∧ bytes m then some [.bool true] else none
 | _ => none
def T561 : T :=
(cc 220 [0, 1] 1 <|
.ite 2
 (.out 0 [kT])
 (cc 221 [1, kI 0, kI 5] 1 <|
 cc 544 [3] 2 <|
 cc 543 [0, 4, 5] 2 <|
 cc 553 [6, 7] 2 <|
 oo .bnot [9] <|
 oN 10 .len [8] <|
 oN 10 (.icm .eql) [11, kI 0] <|
 oo .pick [10, kT, 12] <|
 .ite 13
  (.out 0 [kN])
  (oo .len [8] <|
  cc 221 [1, kI 1, 14] 1 <|
  oo .idx [8, 15] <|
  oo .idx [8, 15] <|
  oo .idx [17, kI 0] <|
  oo .idx [17, kI 0] <|
  oo .len [8] <|
  cc 221 [1, kI 1, 20] 1 <|
  oo .idx [8, 21] <|
  oo .idx [8, 21] <|
  oo .idx [23, kI 1] <|
  oo .idx [23, kI 1] <|
  cc 421 [6, 7, 19, 25] 3 <|
  cc 418 [6, 7, 19, 25] 2 <|
  cc 419 [6, 7, 19, 25] 1 <|
  oo .bne [28, 31] <|
  oN 32 .id [30] <|
  oN 32 .id [28] <|
  oN 32 .bne [33, 34] <|
  oo .pick [32, kT, 35] <|
  .ite 36
   (.out 0 [kN])
   (oo .bnot [28] <|
   .ite 37
    (.out 0 [kT])
    (cc 555 [6, 7, 19, 25] 2 <|
    oo .bnot [39] <|
    oN 40 .len [38] <|
    oN 40 (.icm .neq) [41, kI 2] <|
    oo .pick [40, kT, 42] <|
    oN 43 .len [27] <|
    oN 43 .len [7] <|
    oN 43 (.icm .neq) [44, 45] <|
    oo .pick [43, kT, 46] <|
    .ite 47
     (.out 0 [kN])
     (oo .idx [38, kI 0] <|
     oo .idx [38, kI 0] <|
     oo .idx [7, 49] <|
     oo .idx [7, 49] <|
     cc 556 [51, 19, 25] 1 <|
     oo .idx [38, kI 1] <|
     oo .idx [38, kI 1] <|
     oo .idx [7, 54] <|
     oo .idx [7, 54] <|
     cc 556 [56, 19, 25] 1 <|
     cc 445 [6, 7] 2 <|
     cc 445 [26, 27] 2 <|
     cc 421 [26, 27, 52, 57] 3 <|
     cc 418 [26, 27, 52, 57] 2 <|
     cc 553 [62, 63] 2 <|
     cc 436 [6, 7] 3 <|
     oT 59 .id [61] <|
     oo .pick [59, 72, kN] <|
     oT 73 .id [64] <|
     oo .pick [73, 74, kN] <|
     oT 75 .id [66] <|
     oo .pick [75, 76, kN] <|
     oT 77 .id [68] <|
     oo .pick [77, 78, kN] <|
     oT 79 .id [71] <|
     oo .pick [79, 80, kN] <|
     cT 81 403 [26, 27] 1 <|
     oo .pick [81, 82, kN] <|
     oT 83 .id [58] <|
     oT 83 .id [60] <|
     oT 83 (.icm .eql) [84, 85] <|
     oo .pick [83, 86, kN] <|
     oT 87 .id [65] <|
     oT 87 .id [29] <|
     oT 87 (.fneg .f32) [89] <|
     oT 87 (.fcm .eql .f32) [88, 90] <|
     oo .pick [87, 91, kN] <|
     cT 92 557 [67, 8] 1 <|
     oo .pick [92, 93, kN] <|
     oT 94 .len [69] <|
     oT 94 (.icm .eql) [95, kI 2] <|
     oo .pick [94, 96, kN] <|
     oT 97 .id [70] <|
     oT 97 .id [29] <|
     oT 97 (.fcm .geq .f32) [98, 99] <|
     oo .pick [97, 100, kN] <|
     .out 0 [101]))))))
def S561 (G : Told) (_fuel : Nat) (x0 x1 : D) : Option (Nat × List D) :=
 (gcall G none 220 [x0, x1] 1).bind fun e2 =>
 tif (e2.getD 0 .undef) (
  some (0, [.bool true])) (
  (gcall G none 221 [x1, .int 0, .int 5] 1).bind fun e3 =>
  (gcall G none 544 [e3.getD 0 .undef] 2).bind fun e4 =>
  (gcall G none 543 [x0, e4.getD 0 .undef, e4.getD 1 .undef] 2).bind fun e6 =>
  (gcall G none 553 [e6.getD 0 .undef, e6.getD 1 .undef] 2).bind fun e8 =>
  (gev none .bnot [e8.getD 1 .undef]).bind fun x10 =>
  (gev (some (x10, false)) .len [e8.getD 0 .undef]).bind fun x11 =>
  (gev (some (x10, false)) (.icm .eql) [x11, .int 0]).bind fun x12 =>
  (gev none .pick [x10, .bool true, x12]).bind fun x13 =>
  tif x13 (
   some (0, [.bool false])) (
   (gev none .len [e8.getD 0 .undef]).bind fun x14 =>
   (gcall G none 221 [x1, .int 1, x14] 1).bind fun e15 =>
   (gev none .idx [e8.getD 0 .undef, e15.getD 0 .undef]).bind fun _x16 =>
   (gev none .idx [e8.getD 0 .undef, e15.getD 0 .undef]).bind fun x17 =>
   (gev none .idx [x17, .int 0]).bind fun _x18 =>
   (gev none .idx [x17, .int 0]).bind fun x19 =>
   (gev none .len [e8.getD 0 .undef]).bind fun x20 =>
   (gcall G none 221 [x1, .int 1, x20] 1).bind fun e21 =>
   (gev none .idx [e8.getD 0 .undef, e21.getD 0 .undef]).bind fun _x22 =>
   (gev none .idx [e8.getD 0 .undef, e21.getD 0 .undef]).bind fun x23 =>
   (gev none .idx [x23, .int 1]).bind fun _x24 =>
   (gev none .idx [x23, .int 1]).bind fun x25 =>
   (gcall G none 421 [e6.getD 0 .undef, e6.getD 1 .undef, x19, x25] 3).bind fun e26 =>
   (gcall G none 418 [e6.getD 0 .undef, e6.getD 1 .undef, x19, x25] 2).bind fun e29 =>
   (gcall G none 419 [e6.getD 0 .undef, e6.getD 1 .undef, x19, x25] 1).bind fun e31 =>
   (gev none .bne [e26.getD 2 .undef, e31.getD 0 .undef]).bind fun x32 =>
   (gev (some (x32, false)) .id [e29.getD 1 .undef]).bind fun x33 =>
   (gev (some (x32, false)) .id [e26.getD 2 .undef]).bind fun x34 =>
   (gev (some (x32, false)) .bne [x33, x34]).bind fun x35 =>
   (gev none .pick [x32, .bool true, x35]).bind fun x36 =>
   tif x36 (
    some (0, [.bool false])) (
    (gev none .bnot [e26.getD 2 .undef]).bind fun x37 =>
    tif x37 (
     some (0, [.bool true])) (
     (gcall G none 555 [e6.getD 0 .undef, e6.getD 1 .undef, x19, x25] 2).bind fun e38 =>
     (gev none .bnot [e38.getD 1 .undef]).bind fun x40 =>
     (gev (some (x40, false)) .len [e38.getD 0 .undef]).bind fun x41 =>
     (gev (some (x40, false)) (.icm .neq) [x41, .int 2]).bind fun x42 =>
     (gev none .pick [x40, .bool true, x42]).bind fun x43 =>
     (gev (some (x43, false)) .len [e26.getD 1 .undef]).bind fun x44 =>
     (gev (some (x43, false)) .len [e6.getD 1 .undef]).bind fun x45 =>
     (gev (some (x43, false)) (.icm .neq) [x44, x45]).bind fun x46 =>
     (gev none .pick [x43, .bool true, x46]).bind fun x47 =>
     tif x47 (
      some (0, [.bool false])) (
      (gev none .idx [e38.getD 0 .undef, .int 0]).bind fun _x48 =>
      (gev none .idx [e38.getD 0 .undef, .int 0]).bind fun x49 =>
      (gev none .idx [e6.getD 1 .undef, x49]).bind fun _x50 =>
      (gev none .idx [e6.getD 1 .undef, x49]).bind fun x51 =>
      (gcall G none 556 [x51, x19, x25] 1).bind fun e52 =>
      (gev none .idx [e38.getD 0 .undef, .int 1]).bind fun _x53 =>
      (gev none .idx [e38.getD 0 .undef, .int 1]).bind fun x54 =>
      (gev none .idx [e6.getD 1 .undef, x54]).bind fun _x55 =>
      (gev none .idx [e6.getD 1 .undef, x54]).bind fun x56 =>
      (gcall G none 556 [x56, x19, x25] 1).bind fun e57 =>
      (gcall G none 445 [e6.getD 0 .undef, e6.getD 1 .undef] 2).bind fun e58 =>
      (gcall G none 445 [e26.getD 0 .undef, e26.getD 1 .undef] 2).bind fun e60 =>
      (gcall G none 421 [e26.getD 0 .undef, e26.getD 1 .undef, e52.getD 0 .undef, e57.getD 0 .undef] 3).bind fun e62 =>
      (gcall G none 418 [e26.getD 0 .undef, e26.getD 1 .undef, e52.getD 0 .undef, e57.getD 0 .undef] 2).bind fun e65 =>
      (gcall G none 553 [e62.getD 0 .undef, e62.getD 1 .undef] 2).bind fun e67 =>
      (gcall G none 436 [e6.getD 0 .undef, e6.getD 1 .undef] 3).bind fun e69 =>
      (gev (some ((e58.getD 1 .undef), true)) .id [e60.getD 1 .undef]).bind fun x72 =>
      (gev none .pick [e58.getD 1 .undef, x72, .bool false]).bind fun x73 =>
      (gev (some (x73, true)) .id [e62.getD 2 .undef]).bind fun x74 =>
      (gev none .pick [x73, x74, .bool false]).bind fun x75 =>
      (gev (some (x75, true)) .id [e65.getD 1 .undef]).bind fun x76 =>
      (gev none .pick [x75, x76, .bool false]).bind fun x77 =>
      (gev (some (x77, true)) .id [e67.getD 1 .undef]).bind fun x78 =>
      (gev none .pick [x77, x78, .bool false]).bind fun x79 =>
      (gev (some (x79, true)) .id [e69.getD 2 .undef]).bind fun x80 =>
      (gev none .pick [x79, x80, .bool false]).bind fun x81 =>
      (gcall G (some (x81, true)) 403 [e26.getD 0 .undef, e26.getD 1 .undef] 1).bind fun e82 =>
      (gev none .pick [x81, e82.getD 0 .undef, .bool false]).bind fun x83 =>
      (gev (some (x83, true)) .id [e58.getD 0 .undef]).bind fun x84 =>
      (gev (some (x83, true)) .id [e60.getD 0 .undef]).bind fun x85 =>
      (gev (some (x83, true)) (.icm .eql) [x84, x85]).bind fun x86 =>
      (gev none .pick [x83, x86, .bool false]).bind fun x87 =>
      (gev (some (x87, true)) .id [e65.getD 0 .undef]).bind fun x88 =>
      (gev (some (x87, true)) .id [e29.getD 0 .undef]).bind fun x89 =>
      (gev (some (x87, true)) (.fneg .f32) [x89]).bind fun x90 =>
      (gev (some (x87, true)) (.fcm .eql .f32) [x88, x90]).bind fun x91 =>
      (gev none .pick [x87, x91, .bool false]).bind fun x92 =>
      (gcall G (some (x92, true)) 557 [e67.getD 0 .undef, e8.getD 0 .undef] 1).bind fun e93 =>
      (gev none .pick [x92, e93.getD 0 .undef, .bool false]).bind fun x94 =>
      (gev (some (x94, true)) .len [e69.getD 0 .undef]).bind fun x95 =>
      (gev (some (x94, true)) (.icm .eql) [x95, .int 2]).bind fun x96 =>
      (gev none .pick [x94, x96, .bool false]).bind fun x97 =>
      (gev (some (x97, true)) .id [e69.getD 1 .undef]).bind fun x98 =>
      (gev (some (x97, true)) .id [e29.getD 0 .undef]).bind fun x99 =>
      (gev (some (x97, true)) (.fcm .geq .f32) [x98, x99]).bind fun x100 =>
      (gev none .pick [x97, x100, .bool false]).bind fun x101 =>
      some (0, [x101]))))))
theorem eq561 {G fuel} (x0 x1) : run G fuel T561 [x0, x1] = S561 G fuel x0 x1 := by rw [run_eq]; kernel_rfl
theorem szF : ∀ k, (formV k).length + (formT k).length + totL (formT k) ≤ 1000
 | 0 => by decide
 | 1 => by decide
 | 2 => by decide
 | 3 => by decide
 | _ + 4 => (by decide : fv4.length + ft4.length + totL ft4 ≤ 1000)
theorem valid_n {n : Nat} {ts : List (List Int)} (h : validP n ts = true) : n ≤ 64 := by
 simp only [validP, Bool.and_eq_true, decide_eq_true_eq] at h
 exact h.1.1
theorem p_bne {c d : Bool} : gev none .bne [.bool c, .bool d] = some (.bool (c != d)) := by cases c <;> cases d <;> rfl
theorem p_fng {x : Nat} : gev none (.fneg .f32) [.flt x] = some (.flt (fneg .f32 x)) := rfl
theorem p_e0 {x y : Int} : gev none .idx [il [x, y], .int 0] = some (.int x) := rfl
theorem p_e1 {x y : Int} : gev none .idx [il [x, y], .int 1] = some (.int y) := rfl
theorem F556_t {t : List Int} (h : t.length = 3) (a b : Int) : F556 [il t, .int a, .int b] = some [.int (othL t a b)] := by
 match t, h with
 | [x, y, z], _ => rfl
theorem prEq_or {x y a b : Int} (h : prEq x y a b = true) : (x = a ∧ y = b) ∨ (x = b ∧ y = a) := by simpa [prEq] using h
theorem lenP_pr {vs : List V3} {x y a b : Int} (h : prEq x y a b = true) : lenP vs x y = lenP vs a b := by
 rcases prEq_or h with ⟨rfl, rfl⟩ | ⟨rfl, rfl⟩
 ·rfl
 ·exact lenP_comm _ _ _
theorem eql_self {x : Int} : gev none (.icm .eql) [.int x, .int x] = some (.bool true) := by rw [p_eql, beq_self_eq_true]
theorem neq_self {x : Int} : gev none (.icm .neq) [.int x, .int x] = some (.bool false) := by rw [p_neq]; simp
theorem eql_no {x y : Int} (h : x ≠ y) : gev none (.icm .eql) [.int x, .int y] = some (.bool false) := by rw [p_eql, beq_eq_false_iff_ne.2 h]
attribute [local irreducible] tif tjoin IntKind.wrap il tl vl F220 F221 F543 F544 F553 F421 F418 F419 F555 F556 F445 F403 F557 F436 flipT gnP edgL formV formT mvA eulP flipB pairP validP sheetP

theorem run561 {G : Told} (g220 : G 220 = F220) (g221 : G 221 = F221) (g403 : G 403 = F403) (g418 : G 418 = F418) (g419 : G 419 = F419) (g421 : G 421 = F421) (g436 : G 436 = F436) (g445 : G 445 = F445) (g543 : G 543 = F543) (g544 : G 544 = F544) (g553 : G 553 = F553) (g555 : G 555 = F555) (g556 : G 556 = F556) (g557 : G 557 = F557) :
  ∀ ds rs, F561 ds = some rs → ∃ fuel, run G fuel T561 ds = some (0, rs) := by
 intro ds rs h
 unfold F561 at h
 split at h
 case h_2 => cases h
 rename_i x y
 obtain ⟨l, ha, h⟩ := Option.bind_eq_some_iff.1 h
 obtain ⟨m, hb, h⟩ := Option.bind_eq_some_iff.1 h
 rw [dI_inv ha, dI_inv hb]
 split at h
 case isFalse => cases h
 rename_i hc
 simp only [Option.some.injEq] at h
 subst h
 clear ha hb
 obtain ⟨hl, hm⟩ := hc
 refine ⟨0, ?_⟩
 rw [eq561]
 unfold S561
 have hL : gcall G none 220 [il l, il m] 1 = _ := gcall_on g220 rfl F220_m rfl
 cases hlong : (decide (l.length > 48) || decide (m.length > 48))
 case true =>
  rw [hlong] at hL;refine st_some hL ?_;exact st_ift rfl
 rw [hlong] at hL
 refine st_some hL ?_
 refine st_iff ?_
 have b0 := atP_lt (l := m) (k := 0) (n := 5) (by omega)
 refine st_some (gcall_on g221 rfl (F221_m (l := m) (k := 0) (n := 5) hm (by omega)) rfl) ?_
 generalize atP m 0 5 = k at b0 ⊢
 have hF : F544 [.int (k : Int)] = some [vl (formV k), tl (formT k)] := by
  have e : F544 [.int (k : Int)] = if 0 ≤ (k : Int) ∧ (k : Int) ≤ 4 then some [vl (formV (k : Int).toNat), tl (formT (k : Int).toNat)] else none := by with_unfolding_all rfl
  rw [e, if_pos ⟨by omega, by omega⟩, Int.toNat_natCast]
 refine st_some (gcall_on g544 rfl hF rfl) ?_
 have hsz0 := szF k
 have hlen : (mvA l (formV k)).length = (formV k).length := by
  with_unfolding_all exact mvN_len l (formV k) _
 refine st_some (gcall_on g543 rfl (F543_m hl (show szM _ _ ≤ 1048576 by unfold szM; omega) (by omega)) rfl) ?_
 have hlR := len_R hl k
 have hgR := gn_R hl k
 have hok := form_ok k
 have hed := form_edges k
 rw [← hlen] at hok hed
 have hsz : szM (mvA l (formV k)) (formT k) ≤ 1048576 := by unfold szM; omega
 generalize mvA l (formV k) = vs at *
 generalize formT k = ts at *
 simp only [formOk, Bool.and_eq_true, decide_eq_true_eq] at hok
 obtain ⟨⟨hv, hsh⟩, h2⟩ := hok
 have h64 := valid_n hv
 refine st_some (gcall_on g553 rfl (F553_m hsz hv) rfl) ?_
 refine st_some p_bnot ?_
 refine st_some (g_ff.trans len_tl) ?_
 have hel : (etl (edgL ts vs.length)).length = (edgL ts vs.length).length := etl_len _
 rw [hel]
 refine st_some (g_ff.trans (eql_no (by omega))) ?_
 refine st_some p_pf ?_
 refine st_iff ?_
 refine st_some len_tl ?_
 rw [hel]
 have hi : atP m 1 (edgL ts vs.length).length < (edgL ts vs.length).length := atP_lt (by omega)
 have hat : gcall G none 221 [il m, .int 1, .int ((edgL ts vs.length).length : Int)] 1 = some [.int (atP m 1 (edgL ts vs.length).length : Nat)] := gcall_on g221 rfl (F221_m (k := 1) hm h2) rfl
 generalize atP m 1 (edgL ts vs.length).length = i at hi hat
 refine st_some hat ?_
 obtain ⟨p, q, hpq, hr, hne, hix⟩ := edg_get hi
 have hmem : (p, q) ∈ edgL ts vs.length := by rw [← hpq, List.getD_eq_getElem?_getD, List.getElem?_eq_getElem hi];exact List.getElem_mem hi
 have hE := List.all_eq_true.1 hed _ hmem
 simp only [Bool.and_eq_true] at hr
 refine st_some hix ?_
 refine st_some hix ?_
 refine st_some p_e0 ?_
 refine st_some p_e0 ?_
 refine st_some len_tl ?_
 rw [hel]
 refine st_some hat ?_
 refine st_some hix ?_
 refine st_some hix ?_
 refine st_some p_e1 ?_
 refine st_some p_e1 ?_
 have hpair : pairP vs.length ts p q = true := by
  have e : pairP vs.length ts p q = (validP vs.length ts && sheetP ts && inr vs.length p && inr vs.length q && (p != q)) := by with_unfolding_all rfl
  rw [e, hv, hsh, hr.1, hr.2];simpa using hne
 have f1 := F421_m (p := p) (q := q) hsz
 have f2 := F418_m (p := p) (q := q) hsz
 have f3 := F419_m (p := p) (q := q) hsz
 rw [hpair, Bool.true_and] at f1 f2 f3
 cases hB : flipB ts p q
 case false =>
  rw [hB] at f1 f2 f3;refine st_some (gcall_on g421 rfl f1 rfl) ?_;refine st_some (gcall_on g418 rfl f2 rfl) ?_;refine st_some (gcall_on g419 rfl f3 rfl) ?_;refine st_some p_bne ?_;refine st_some (g_ff.trans p_id) ?_;refine st_some (g_ff.trans p_id) ?_;refine st_some (g_ff.trans p_bne) ?_;refine st_some p_pf ?_;refine st_iff ?_;refine st_some p_bnot ?_;exact st_ift rfl
 rw [hB] at f1 f2 f3
 have hE2 : edgeOk vs.length ts (p, q) = (inr vs.length p && inr vs.length q && (p != q) && (!(flipB ts p q) || flipOk vs.length ts p q)) := by with_unfolding_all rfl
 rw [hE2, hB] at hE
 simp only [Bool.not_true, Bool.false_or, Bool.and_eq_true] at hE
 obtain ⟨_, hK⟩ := hE
 simp only [flipOk, Bool.and_eq_true, decide_eq_true_eq, beq_iff_eq] at hK
 obtain ⟨⟨⟨⟨⟨⟨⟨⟨⟨k1, k2⟩, k3⟩, k4⟩, k5⟩, k6⟩, k7⟩, k8⟩, k9⟩, k10⟩ := hK
 refine st_some (gcall_on g421 rfl f1 rfl) ?_
 refine st_some (gcall_on g418 rfl f2 rfl) ?_
 refine st_some (gcall_on g419 rfl f3 rfl) ?_
 refine st_some p_bne ?_
 refine st_some (g_ff.trans p_id) ?_
 refine st_some (g_ff.trans p_id) ?_
 refine st_some (g_ff.trans p_bne) ?_
 refine st_some p_pf ?_
 refine st_iff ?_
 refine st_some p_bnot ?_
 refine st_iff ?_
 refine st_some (gcall_on g555 rfl (F555_m hsz hv hr.1 hr.2 hne) rfl) ?_
 have ht2 : (atL ts p q).length = 2 := by
  have e : flipB ts p q = (decide ((atL ts p q).length = 2) && flipQ ts p q) := by with_unfolding_all rfl
  rw [e] at hB;simp only [Bool.and_eq_true, decide_eq_true_eq] at hB;exact hB.1
 refine st_some p_bnot ?_
 refine st_some (g_ff.trans len_il) ?_
 rw [ht2]
 refine st_some (g_ff.trans neq_self) ?_
 refine st_some p_pf ?_
 refine st_some (g_ff.trans len_tl) ?_
 refine st_some (g_ff.trans len_tl) ?_
 rw [k1]
 refine st_some (g_ff.trans neq_self) ?_
 refine st_some p_pf ?_
 refine st_iff ?_
 have hin : ∀ j ∈ atL ts p q, 0 ≤ j ∧ j < (ts.length : Int) := fun j hj => atL_in hj
 have h3 := tri3 hv
 have hc1 : fC ts p q = othL (ts.getD ((atL ts p q).getD 0 0).toNat []) p q := rfl
 have hd1 : fD ts p q = othL (ts.getD ((atL ts p q).getD 1 0).toNat []) p q := rfl
 generalize hal : atL ts p q = al at ht2 hin hc1 hd1
 match al, ht2 with
 | [i0, i1], _ =>
 have g0 := hin i0 (by simp)
 have g1 := hin i1 (by simp)
 have hg3 : ∀ {j : Int}, 0 ≤ j → j < (ts.length : Int) → (ts.getD j.toNat []).length = 3 := fun {j} a b => by
  rw [List.getD_eq_getElem?_getD, List.getElem?_eq_getElem (by omega)]
  exact h3 _ (List.getElem_mem (by omega))
 refine st_some p_e0 ?_
 refine st_some p_e0 ?_
 refine st_some (p_tj g0.1 g0.2) ?_
 refine st_some (p_tj g0.1 g0.2) ?_
 refine st_some (gcall_on g556 rfl (F556_t (hg3 g0.1 g0.2) p q) rfl) ?_
 refine st_some p_e1 ?_
 refine st_some p_e1 ?_
 refine st_some (p_tj g1.1 g1.2) ?_
 refine st_some (p_tj g1.1 g1.2) ?_
 refine st_some (gcall_on g556 rfl (F556_t (hg3 g1.1 g1.2) p q) rfl) ?_
 simp only [List.getD_cons_zero, List.getD_cons_succ] at hc1 hd1 ⊢
 rw [← hc1, ← hd1]
 have hsz1 : szM vs (flipT ts p q) ≤ 1048576 := by rw [szM_flip hv]; exact hsz
 have hsz2 : szM vs (flipT (flipT ts p q) (fC ts p q) (fD ts p q)) ≤ 1048576 := by rw [szM_flip k2]; exact hsz1
 have f4 := F445_m hsz
 rw [hv, if_pos rfl] at f4
 have f5 := F445_m hsz1
 rw [k2, if_pos rfl] at f5
 have f6 := F421_m (p := fC ts p q) (q := fD ts p q) hsz1
 rw [k5, k6] at f6
 have f7 := F418_m (p := fC ts p q) (q := fD ts p q) hsz1
 rw [k5, k6] at f7
 have f8 := F436_m hsz
 rw [hv, hsh] at f8
 have hnum : numF vs ts ((edgL ts vs.length).getD i (0, 0)) = some (gnP vs ts p q) := by rw [hpq];unfold numF;exact if_pos hB
 obtain ⟨j', v, hbst, hle⟩ := (bst_max (num := numF vs ts) (es := edgL ts vs.length) (fun e x hx => by
  unfold numF at hx;split at hx
  ·simp only [Option.some.injEq] at hx
   rw [← hx]; exact hgR ts e.1 e.2
  ·cases hx) (edgL ts vs.length).length).2 i _ hi hnum
 have hvf := (bst_max (num := numF vs ts) (es := edgL ts vs.length) (fun e x hx => by
  unfold numF at hx;split at hx
  ·simp only [Option.some.injEq] at hx
   rw [← hx]; exact hgR ts e.1 e.2
  ·cases hx) (edgL ts vs.length).length).1 j' v hbst
 obtain ⟨p', q', hpq'⟩ : ∃ p' q', (edgL ts vs.length).getD j' (0, 0) = (p', q') := ⟨_, _, rfl⟩
 have hR : bstP (numF vs ts) (betL true) (edgL ts vs.length) = [il [p', q'], .flt v, .bool true] := by unfold bstP;rw [hbst];exact bstR_some hpq'
 rw [Bool.and_self, if_pos rfl, hR] at f8
 have f9 := F403_m hsz1
 rw [k2, k3] at f9
 have f10 := F553_m hsz2 k7
 rw [k8] at f10
 have f11 := F557_m (ts := etl (edgL ts vs.length)) (by rw [etl_len]; exact edg_len h64) (fun t ht => by
  obtain ⟨e, _, rfl⟩ := List.mem_map.1 ht
  exact (by decide : (2 : Nat) ≤ 100))
 have hless : gnP vs (flipT ts p q) (fC ts p q) (fD ts p q) = fsub .f32 (lenP vs (fC ts p q) (fD ts p q)) (lenP vs p q) := by
  have e : gnP vs (flipT ts p q) (fC ts p q) (fD ts p q) = fsub .f32 (lenP vs (fC ts p q) (fD ts p q)) (lenP vs (flC (flipT ts p q) (fC ts p q) (fD ts p q)) (flD (flipT ts p q) (fC ts p q) (fD ts p q))) := by with_unfolding_all rfl
  rw [e, lenP_pr k9]
 have hgain : gnP vs ts p q = fsub .f32 (lenP vs p q) (lenP vs (fC ts p q) (fD ts p q)) := by
  have e : gnP vs ts p q = fsub .f32 (lenP vs p q) (lenP vs (flC ts p q) (flD ts p q)) := by with_unfolding_all rfl
  rw [e, ← lenP_pr k10]
 have hopp : feq .f32 (gnP vs (flipT ts p q) (fC ts p q) (fD ts p q)) (fneg .f32 (gnP vs ts p q)) = true := by rw [hless, hgain];exact (gain_back (hlR p q) (hlR _ _)).2
 have hge : fge .f32 v (gnP vs ts p q) = true := by rw [fge_R hvf (hgR ts p q)];exact decide_eq_true hle
 refine st_some (gcall_on g445 rfl f4 rfl) ?_
 refine st_some (gcall_on g445 rfl f5 rfl) ?_
 refine st_some (gcall_on g421 rfl f6 rfl) ?_
 refine st_some (gcall_on g418 rfl f7 rfl) ?_
 refine st_some (gcall_on g553 rfl f10 rfl) ?_
 refine st_some (gcall_on g436 rfl f8 rfl) ?_
 refine st_some (g_tt.trans p_id) ?_
 refine st_some p_pt ?_
 refine st_some (g_tt.trans p_id) ?_
 refine st_some p_pt ?_
 refine st_some (g_tt.trans p_id) ?_
 refine st_some p_pt ?_
 refine st_some (g_tt.trans p_id) ?_
 refine st_some p_pt ?_
 refine st_some (g_tt.trans p_id) ?_
 refine st_some p_pt ?_
 refine st_some (c_tt.trans (gcall_on g403 rfl f9 rfl)) ?_
 refine st_some p_pt ?_
 refine st_some (g_tt.trans p_id) ?_
 refine st_some (g_tt.trans p_id) ?_
 rw [← k4]
 refine st_some (g_tt.trans eql_self) ?_
 refine st_some p_pt ?_
 refine st_some (g_tt.trans p_id) ?_
 refine st_some (g_tt.trans p_id) ?_
 refine st_some (g_tt.trans p_fng) ?_
 refine st_some (g_tt.trans p_feql) ?_
 rw [hopp]
 refine st_some p_pt ?_
 refine st_some (c_tt.trans (gcall_on g557 rfl f11 rfl)) ?_
 refine st_some p_pt ?_
 refine st_some (g_tt.trans len_il) ?_
 refine st_some (g_tt.trans eql_self) ?_
 refine st_some p_pt ?_
 refine st_some (g_tt.trans p_id) ?_
 refine st_some (g_tt.trans p_id) ?_
 refine st_some (g_tt.trans p_fgeq) ?_
 rw [hge]
 refine st_some p_pt ?_
 rfl
end Vs
