/-
  Lists of edges that are looked at.
-/
import Derived.Test.YtaakjnkllodchaaGreatK47
import Derived.Test.YtaakjnkllodchaaGreatK33
set_option maxHeartbeats 4000000
namespace Vs
open Go Go.Sort
noncomputable def F553 : List D → Option (List D)
 | [a, b] => (dV a).bind fun vs => (dT b).bind fun ts => if szM vs ts ≤ 1048576 ∧ validP vs.length ts = true then some [tl (etl (edgL ts vs.length)), .bool true] else none
 | _ => none
theorem F553_m {vs : List V3} {ts : List (List Int)} (h : szM vs ts ≤ 1048576) (hv : validP vs.length ts = true) : F553 [vl vs, tl ts] = some [tl (etl (edgL ts vs.length)), .bool true] := by
 simp only [F553, dV_vl, dT_tl, Option.bind_some]
 exact if_pos ⟨h, hv⟩
open Classical in
noncomputable def F554 (ds : List D) : Option (List D) := if h : ∃ es : List E2, ds = [edl es] ∧ es.length ≤ 4096 then some [tl (etl h.choose)] else none
noncomputable def F555 : List D → Option (List D)
 | [a, b, .int p, .int q] => (dV a).bind fun vs => (dT b).bind fun ts => if szM vs ts ≤ 1048576 ∧ (validP vs.length ts = true ∧ inr vs.length p = true ∧ inr vs.length q = true ∧ p ≠ q) then some [il (atL ts p q), .bool true] else none
 | _ => none
theorem F555_m {vs : List V3} {ts : List (List Int)} {p q : Int} (h : szM vs ts ≤ 1048576) (hv : validP vs.length ts = true) (h1 : inr vs.length p = true) (h2 : inr vs.length q = true) (h3 : p ≠ q) : F555 [vl vs, tl ts, .int p, .int q] = some [il (atL ts p q), .bool true] := by
 simp only [F555, dV_vl, dT_tl, Option.bind_some]
 exact if_pos ⟨h, hv, h1, h2, h3⟩
open Classical in
noncomputable def F557 (ds : List D) : Option (List D) := if ∃ ts : List (List Int), ds = [tl ts, tl ts] ∧ ts.length ≤ 4096 ∧ ∀ t ∈ ts, t.length ≤ 100 then some [.bool true] else none
theorem F557_m {ts : List (List Int)} (h : ts.length ≤ 4096) (h1 : ∀ t ∈ ts, t.length ≤ 100) : F557 [tl ts, tl ts] = some [.bool true] := if_pos ⟨ts, rfl, h, h1⟩
open Classical in
noncomputable def F558 (ds : List D) : Option (List D) := if ∃ t : List Int, ds = [il t, il t] ∧ t.length ≤ 100 then some [.bool true] else none
theorem F558_m {t : List Int} (h : t.length ≤ 100) : F558 [il t, il t] = some [.bool true] := if_pos ⟨t, rfl, h⟩
theorem edl_inj : ∀ {a b : List E2}, edl a = edl b → a = b := by
 intro a b h
 unfold edl at h
 simp only [D.lst.injEq] at h
 refine List.map_inj_right (fun x y h => ?_) |>.1 h
 simp only [kD, D.agg.injEq, List.cons.injEq, D.int.injEq, and_true] at h
 exact Prod.ext h.1 h.2
theorem F554_m {es : List E2} (h : es.length ≤ 4096) : F554 [edl es] = some [tl (etl es)] := by
 have hx : ∃ fs : List E2, [edl es] = [edl fs] ∧ fs.length ≤ 4096 := ⟨es, rfl, h⟩
 unfold F554
 rw [dif_pos hx]
 have hs := hx.choose_spec.1
 generalize hx.choose = fs at hs ⊢
 simp only [List.cons.injEq, and_true] at hs
 rw [edl_inj hs]
theorem lss_t {x y : Int} (h : x < y) : gev none (.icm .lss) [.int x, .int y] = some (.bool true) := p_lss.trans (congrArg (fun b => some (D.bool b)) (decide_eq_true h))
theorem lss_f {x y : Int} (h : ¬ x < y) : gev none (.icm .lss) [.int x, .int y] = some (.bool false) := p_lss.trans (congrArg (fun b => some (D.bool b)) (decide_eq_false h))
theorem neq_f {x y : Int} (h : x = y) : gev none (.icm .neq) [.int x, .int y] = some (.bool false) := p_neq.trans (congrArg (fun b => some (D.bool b)) (bne_eq_false_iff_eq.2 h))
theorem eql_t {x y : Int} (h : x = y) : gev none (.icm .eql) [.int x, .int y] = some (.bool true) := p_eql.trans (congrArg (fun b => some (D.bool b)) (beq_iff_eq.2 h))
theorem eql_f {x y : Int} (h : x ≠ y) : gev none (.icm .eql) [.int x, .int y] = some (.bool false) := p_eql.trans (congrArg (fun b => some (D.bool b)) (beq_eq_false_iff_ne.2 h))
theorem app_tl1 {l : List (List Int)} {t : List Int} (h : l.length < 1048576) : gev none .app [tl l, tl [t]] = some (tl (l ++ [t])) := by
 simp only [gev, gok, if_true, Prim.ev, tl]
 rw [if_pos (by simp; omega)]
 simp
theorem p_tl1 {t : List Int} : gev none .mklst [il t] = some (tl [t]) := (rfl)
theorem mk_0t : gev none .mklst [] = some (tl []) := by unfold tl; rfl
theorem e_0 {a b : Int} : gev none (.proj 0) [kD (a, b)] = some (.int a) := (rfl)
theorem e_1 {a b : Int} : gev none (.proj 1) [kD (a, b)] = some (.int b) := (rfl)
def T553 : T :=
(cc 150 [0, 1] 1 <|
oo .bnot [2] <|
.ite 3
 (.out 0 [kL, kN])
 (cc 401 [0, 1] 2 <|
 cc 554 [5] 1 <|
 .out 0 [6, kT]))
def S553 (G : Told) (_fuel : Nat) (x0 x1 : D) : Option (Nat × List D) :=
 (gcall G none 150 [x0, x1] 1).bind fun e2 =>
 (gev none .bnot [e2.getD 0 .undef]).bind fun x3 =>
 tif x3 (
  some (0, [(.lst []), (.bool false)])) (
  (gcall G none 401 [x0, x1] 2).bind fun e4 =>
  (gcall G none 554 [e4.getD 1 .undef] 1).bind fun e6 =>
  some (0, [e6.getD 0 .undef, .bool true]))
theorem eq553 {G fuel} (x0 x1) : run G fuel T553 [x0, x1] = S553 G fuel x0 x1 := by rw [run_eq]; kernel_rfl
def T554 : T :=
(oo .mklst [] <|
oo .len [0] <|
.join 3
 (.loop [1, kI 0]
  (oo (.icm .lss) [4, 2] <|
  .ite 5
   (oo .idx [0, 4] <|
   oo (.proj 0) [6] <|
   oo (.proj 1) [6] <|
   oo .mklst [7, 8] <|
   oo .mklst [9] <|
   oo .app [3, 10] <|
   oo (.iar .add .i64) [4, kI 1] <|
   .out 0 [11, 12])
   (.out 1 [3, 4, 5])))
(.out 0 [3]))
def S554L0 (_G : Told) (x0 : D) (x2 : D) : List D → Option (Nat × List D) := fun e3 =>
   (gev none (.icm .lss) [e3.getD 1 .undef, x2]).bind fun x5 =>
   tif x5 (
    (gev none .idx [x0, e3.getD 1 .undef]).bind fun x6 =>
    (gev none (.proj 0) [x6]).bind fun x7 =>
    (gev none (.proj 1) [x6]).bind fun x8 =>
    (gev none .mklst [x7, x8]).bind fun x9 =>
    (gev none .mklst [x9]).bind fun x10 =>
    (gev none .app [e3.getD 0 .undef, x10]).bind fun x11 =>
    (gev none (.iar .add .i64) [e3.getD 1 .undef, .int 1]).bind fun x12 =>
    some (0, [x11, x12])) (
    some (1, [e3.getD 0 .undef, e3.getD 1 .undef, x5]))
def S554 (G : Told) (fuel : Nat) (x0 : D) : Option (Nat × List D) :=
 (gev none .mklst []).bind fun x1 =>
 (gev none .len [x0]).bind fun x2 =>
 tjoin 3 (
  iter (tbody 2 (S554L0 G x0 x2)) fuel [x1, .int 0]) fun e3 =>
 some (0, [e3.getD 0 .undef])
theorem eq554 {G fuel} (x0) : run G fuel T554 [x0] = S554 G fuel x0 := by rw [run_eq]; kernel_rfl
def T555 : T :=
(cc 409 [0, 1, 2] 1 <|
oo .bnot [4] <|
oN 5 .id [3] <|
cN 5 409 [0, 1, 6] 1 <|
oN 5 .bnot [7] <|
oo .pick [5, kT, 8] <|
oN 9 .id [2] <|
oN 9 .id [3] <|
oN 9 (.icm .eql) [10, 11] <|
oo .pick [9, kT, 12] <|
.ite 13
 (.out 0 [kL, kN])
 (oo .mklst [2, 3] <|
 cc 411 [0, 1, 14] 1 <|
 .out 0 [15, kT]))
def S555 (G : Told) (_fuel : Nat) (x0 x1 x2 x3 : D) : Option (Nat × List D) :=
 (gcall G none 409 [x0, x1, x2] 1).bind fun e4 =>
 (gev none .bnot [e4.getD 0 .undef]).bind fun x5 =>
 (gev (some (x5, false)) .id [x3]).bind fun x6 =>
 (gcall G (some (x5, false)) 409 [x0, x1, x6] 1).bind fun e7 =>
 (gev (some (x5, false)) .bnot [e7.getD 0 .undef]).bind fun x8 =>
 (gev none .pick [x5, .bool true, x8]).bind fun x9 =>
 (gev (some (x9, false)) .id [x2]).bind fun x10 =>
 (gev (some (x9, false)) .id [x3]).bind fun x11 =>
 (gev (some (x9, false)) (.icm .eql) [x10, x11]).bind fun x12 =>
 (gev none .pick [x9, .bool true, x12]).bind fun x13 =>
 tif x13 (
  some (0, [(.lst []), (.bool false)])) (
  (gev none .mklst [x2, x3]).bind fun x14 =>
  (gcall G none 411 [x0, x1, x14] 1).bind fun e15 =>
  some (0, [e15.getD 0 .undef, .bool true]))
theorem eq555 {G fuel} (x0 x1 x2 x3) : run G fuel T555 [x0, x1, x2, x3] = S555 G fuel x0 x1 x2 x3 := by rw [run_eq]; kernel_rfl
def T557 : T :=
(oo .len [0] <|
oo .len [1] <|
oo (.icm .neq) [2, 3] <|
.ite 4
 (.out 0 [kN])
 (.join 4
  (.loop [kI 0]
   (oo .len [0] <|
   oo (.icm .lss) [5, 6] <|
   .ite 7
    (oo .idx [0, 5] <|
    oo .idx [1, 5] <|
    cc 558 [8, 9] 1 <|
    oo .bnot [10] <|
    .ite 11
     (.out 2 [kN])
     (oo (.iar .add .i64) [5, kI 1] <|
     .out 0 [12]))
    (.out 1 [5, 5, 6, 7])))
 (.out 0 [kT])))
def S557L0 (G : Told) (x0 : D) (x1 : D) : List D → Option (Nat × List D) := fun e5 =>
    (gev none .len [x0]).bind fun x6 =>
    (gev none (.icm .lss) [e5.getD 0 .undef, x6]).bind fun x7 =>
    tif x7 (
     (gev none .idx [x0, e5.getD 0 .undef]).bind fun x8 =>
     (gev none .idx [x1, e5.getD 0 .undef]).bind fun x9 =>
     (gcall G none 558 [x8, x9] 1).bind fun e10 =>
     (gev none .bnot [e10.getD 0 .undef]).bind fun x11 =>
     tif x11 (
      some (2, [.bool false])) (
      (gev none (.iar .add .i64) [e5.getD 0 .undef, .int 1]).bind fun x12 =>
      some (0, [x12]))) (
     some (1, [e5.getD 0 .undef, e5.getD 0 .undef, x6, x7]))
def S557 (G : Told) (fuel : Nat) (x0 x1 : D) : Option (Nat × List D) :=
 (gev none .len [x0]).bind fun x2 =>
 (gev none .len [x1]).bind fun x3 =>
 (gev none (.icm .neq) [x2, x3]).bind fun x4 =>
 tif x4 (
  some (0, [.bool false])) (
  tjoin 4 (
   iter (tbody 1 (S557L0 G x0 x1)) fuel [.int 0]) fun _e5 =>
  some (0, [.bool true]))
theorem eq557 {G fuel} (x0 x1) : run G fuel T557 [x0, x1] = S557 G fuel x0 x1 := by rw [run_eq]; kernel_rfl
def T558 : T :=
(oo .len [0] <|
oo .len [1] <|
oo (.icm .neq) [2, 3] <|
.ite 4
 (.out 0 [kN])
 (.join 4
  (.loop [kI 0]
   (oo .len [0] <|
   oo (.icm .lss) [5, 6] <|
   .ite 7
    (oo .idx [0, 5] <|
    oo .idx [1, 5] <|
    oo (.icm .neq) [8, 9] <|
    .ite 10
     (.out 2 [kN])
     (oo (.iar .add .i64) [5, kI 1] <|
     .out 0 [11]))
    (.out 1 [5, 5, 6, 7])))
 (.out 0 [kT])))
def S558L0 (_G : Told) (x0 : D) (x1 : D) : List D → Option (Nat × List D) := fun e5 =>
    (gev none .len [x0]).bind fun x6 =>
    (gev none (.icm .lss) [e5.getD 0 .undef, x6]).bind fun x7 =>
    tif x7 (
     (gev none .idx [x0, e5.getD 0 .undef]).bind fun x8 =>
     (gev none .idx [x1, e5.getD 0 .undef]).bind fun x9 =>
     (gev none (.icm .neq) [x8, x9]).bind fun x10 =>
     tif x10 (
      some (2, [.bool false])) (
      (gev none (.iar .add .i64) [e5.getD 0 .undef, .int 1]).bind fun x11 =>
      some (0, [x11]))) (
     some (1, [e5.getD 0 .undef, e5.getD 0 .undef, x6, x7]))
def S558 (G : Told) (fuel : Nat) (x0 x1 : D) : Option (Nat × List D) :=
 (gev none .len [x0]).bind fun x2 =>
 (gev none .len [x1]).bind fun x3 =>
 (gev none (.icm .neq) [x2, x3]).bind fun x4 =>
 tif x4 (
  some (0, [.bool false])) (
  tjoin 4 (
   iter (tbody 1 (S558L0 G x0 x1)) fuel [.int 0]) fun _e5 =>
  some (0, [.bool true]))
theorem eq558 {G fuel} (x0 x1) : run G fuel T558 [x0, x1] = S558 G fuel x0 x1 := by rw [run_eq]; kernel_rfl
attribute [local irreducible] IntKind.wrap il tl vl edl kD inr validP mpD szM atL

theorem run558 {G : Told} : Runs G F558 T558 := by
 intro ds rs h
 unfold F558 at h
 split at h
 case isFalse => cases h
 rename_i hx
 simp only [Option.some.injEq] at h
 subst h
 obtain ⟨t, rfl, hl⟩ := hx
 refine ⟨200, ?_⟩
 rw [eq558]
 unfold S558
 have hit : iter (tbody 1 (S558L0 G (il t) (il t))) 200 [.int 0] = some (0, [.int (t.length : Int), .int (t.length : Int), .int (t.length : Int), .bool false]) := by
  refine iter_to (body := tbody 1 (S558L0 G (il t) (il t))) (n := t.length) (f := 200) (l := 0) (ds := [.int (t.length : Int), .int (t.length : Int), .int (t.length : Int), .bool false]) (fun i => [.int (i : Int)]) (by omega) (fun i hi => ?_) ?_
  ·refine tb rfl ?_
   unfold S558L0;refine st_some len_il ?_;refine st_some (lss_t (by omega)) ?_
   refine st_ift ?_;refine st_some (p_ii hi) ?_;refine st_some (p_ii hi) ?_;refine st_some (neq_f rfl) ?_;refine st_iff ?_;refine st_some (add1n (by omega)) ?_
   rfl
  ·refine tb rfl ?_
   unfold S558L0;refine st_some len_il ?_;refine st_some (lss_f (by omega)) ?_
   rfl
 refine st_some len_il ?_
 refine st_some len_il ?_
 refine st_some (neq_f rfl) ?_
 refine st_iff ?_
 refine st_join hit rfl ?_
 rfl
theorem run557 {G : Told} (g558 : G 558 = F558) : Runs G F557 T557 := by
 intro ds rs h
 unfold F557 at h
 split at h
 case isFalse => cases h
 rename_i hx
 simp only [Option.some.injEq] at h
 subst h
 obtain ⟨t, rfl, hl, hr⟩ := hx
 obtain ⟨F, hF⟩ : ∃ F : Nat, 4096 < F := ⟨4097, by omega⟩
 refine ⟨F, ?_⟩
 rw [eq557]
 unfold S557
 have hit : iter (tbody 1 (S557L0 G (tl t) (tl t))) F [.int 0] = some (0, [.int (t.length : Int), .int (t.length : Int), .int (t.length : Int), .bool false]) := by
  refine iter_to (body := tbody 1 (S557L0 G (tl t) (tl t))) (n := t.length) (f := F) (l := 0) (ds := [.int (t.length : Int), .int (t.length : Int), .int (t.length : Int), .bool false]) (fun i => [.int (i : Int)]) (by omega) (fun i hi => ?_) ?_
  ·refine tb rfl ?_
   have hm : t.getD i [] ∈ t := by rw [getD_lt hi]; exact List.getElem_mem hi
   have c : gcall G none 558 [il (t.getD i []), il (t.getD i [])] 1 = some [.bool true] := gcall_on g558 rfl (F558_m (hr _ hm)) rfl;unfold S557L0;refine st_some len_tl ?_;refine st_some (lss_t (by omega)) ?_
   refine st_ift ?_;refine st_some (p_ti hi) ?_;refine st_some (p_ti hi) ?_;refine st_some c ?_;refine st_some p_bnot ?_;refine st_iff ?_;refine st_some (add1n (by omega)) ?_
   rfl
  ·refine tb rfl ?_
   unfold S557L0;refine st_some len_tl ?_;refine st_some (lss_f (by omega)) ?_
   rfl
 refine st_some len_tl ?_
 refine st_some len_tl ?_
 refine st_some (neq_f rfl) ?_
 refine st_iff ?_
 refine st_join hit rfl ?_
 rfl
theorem run555 {G : Told} (g409 : G 409 = F409) (g411 : G 411 = F411) : Runs G F555 T555 := by
 intro ds rs h
 unfold F555 at h
 split at h
 case h_2 => cases h
 rename_i a b p q
 obtain ⟨vs, ha, h⟩ := Option.bind_eq_some_iff.1 h
 obtain ⟨ts, hb, h⟩ := Option.bind_eq_some_iff.1 h
 rw [dV_inv ha, dT_inv hb]
 split at h
 case isFalse => cases h
 rename_i hc
 simp only [Option.some.injEq] at h
 subst h
 obtain ⟨hz, hv, h1, h2, h3⟩ := hc
 refine ⟨0, ?_⟩
 rw [eq555]
 unfold S555
 have c1 : gcall G none 409 [vl vs, tl ts, .int p] 1 = some [.bool true] := gcall_on g409 rfl (by rw [F409_m hz, hv, h1]; rfl) rfl
 have c2 : gcall G none 409 [vl vs, tl ts, .int q] 1 = some [.bool true] := gcall_on g409 rfl (by rw [F409_m hz, hv, h2]; rfl) rfl
 have c3 : gcall G none 411 [vl vs, tl ts, il [p, q]] 1 = some [il (atL ts p q)] := gcall_on g411 rfl (F411_m (valid64 hv)) rfl
 refine st_some c1 ?_
 refine st_some p_bnot ?_
 refine st_some (g_ff.trans p_id) ?_
 refine st_some (c_ff.trans c2) ?_
 refine st_some (g_ff.trans p_bnot) ?_
 refine st_some p_pf ?_
 refine st_some (g_ff.trans p_id) ?_
 refine st_some (g_ff.trans p_id) ?_
 refine st_some (g_ff.trans (eql_f h3)) ?_
 refine st_some p_pf ?_
 refine st_iff ?_
 refine st_some p_il2 ?_
 refine st_some c3 ?_
 rfl
theorem run554 {G : Told} : Runs G F554 T554 := by
 intro ds rs h
 have h0 := h
 unfold F554 at h
 split at h
 case isFalse => cases h
 rename_i hx
 clear h
 obtain ⟨es, rfl, hl⟩ := hx
 rw [F554_m hl] at h0
 simp only [Option.some.injEq] at h0
 subst h0
 obtain ⟨F, hF⟩ : ∃ F : Nat, 4096 < F := ⟨4097, by omega⟩
 refine ⟨F, ?_⟩
 rw [eq554]
 unfold S554
 have hit : iter (tbody 2 (S554L0 G (edl es) (.int (es.length : Int)))) F [tl [], .int 0] = some (0, [tl (etl es), .int (es.length : Int), .bool false]) := by
  have h1 := iter_to (body := tbody 2 (S554L0 G (edl es) (.int (es.length : Int)))) (n := es.length) (f := F) (l := 0) (ds := [tl (etl es), .int (es.length : Int), .bool false]) (fun i => [tl (etl (es.take i)), .int (i : Int)]) (by omega) (fun i hi => ?_) ?_
  ·exact h1
  ·refine tb rfl ?_
   obtain ⟨a, b, hab⟩ : ∃ a b, es.getD i (0, 0) = (a, b) := ⟨_, _, rfl⟩;have hx := idx_edl hi;rw [hab] at hx;have hs : etl (es.take (i + 1)) = etl (es.take i) ++ [[a, b]] := by rw [List.take_add_one, List.getElem?_eq_getElem hi, ← getD_lt (d := (0, 0)) hi, hab];unfold etl;simp
   have hlen : (etl (es.take i)).length < 1048576 := by unfold etl; simp; omega
   rw [hs];unfold S554L0;refine st_some (lss_t (by omega)) ?_
   refine st_ift ?_;refine st_some hx ?_;refine st_some e_0 ?_;refine st_some e_1 ?_;refine st_some p_il2 ?_;refine st_some p_tl1 ?_;refine st_some (app_tl1 hlen) ?_;refine st_some (add1n (by omega)) ?_
   rfl
  ·refine tb rfl ?_
   unfold S554L0;refine st_some (lss_f (by omega)) ?_
   show some (1, [tl (etl (es.take es.length)), _, _]) = _;rw [List.take_length];rfl
 refine st_some mk_0t ?_
 refine st_some len_edl ?_
 refine st_join hit rfl ?_
 rfl
theorem run553 {G : Told} (g150 : G 150 = F150) (g401 : G 401 = F401) (g554 : G 554 = F554) : Runs G F553 T553 := by
 intro ds rs h
 unfold F553 at h
 split at h
 case h_2 => cases h
 rename_i a b
 obtain ⟨vs, ha, h⟩ := Option.bind_eq_some_iff.1 h
 obtain ⟨ts, hb, h⟩ := Option.bind_eq_some_iff.1 h
 rw [dV_inv ha, dT_inv hb]
 split at h
 case isFalse => cases h
 rename_i hc
 simp only [Option.some.injEq] at h
 subst h
 obtain ⟨hz, hv⟩ := hc
 refine ⟨0, ?_⟩
 rw [eq553]
 unfold S553
 have hn := (valid_len hv).1
 have c1 : gcall G none 150 [vl vs, tl ts] 1 = some [.bool true] := gcall_on g150 rfl (by rw [F150_m hz, hv]) rfl
 have c2 : gcall G none 401 [vl vs, tl ts] 2 = some [mpD il (byT ts).1, edl (edgL ts vs.length)] := gcall_on g401 rfl (by rw [F401_m (valid64 hv), sort_edges (triOk_of hv)]) rfl
 have c3 : gcall G none 554 [edl (edgL ts vs.length)] 1 = some [tl (etl (edgL ts vs.length))] := gcall_on g554 rfl (F554_m (edg_len hn)) rfl
 refine st_some c1 ?_
 refine st_some p_bnot ?_
 refine st_iff ?_
 refine st_some c2 ?_
 refine st_some c3 ?_
 rfl
theorem idx_loop {G : Told} (g453 : G 453 = F453) (g210 : G 210 = F210m) {es : List (List Int)} {a b r : Int} (hl : es.length ≤ 1000) : ∀ (m k : Nat), k + m = es.length → idxP a b (es.drop k) k = some r → ∀ F, m < F →
  (∃ ds : List D, ds.length = 4 ∧ r = 0 ∧ iter (tbody 1 (S552L0 G (tl es) (.int a) (.int b))) F [.int (k : Int)] = some (0, ds)) ∨ iter (tbody 1 (S552L0 G (tl es) (.int a) (.int b))) F [.int (k : Int)] = some (1, [.int r])
 | 0, k, hk, hi, F, hF => by
  rw [List.drop_eq_nil_of_le (by omega), idxP] at hi
  simp only [Option.some.injEq] at hi;obtain ⟨F, rfl⟩ : ∃ E, F = E + 1 := ⟨F - 1, by omega⟩
  refine .inl ⟨[.int (k : Int), .int (k : Int), .int (es.length : Int), .bool false], rfl, hi.symm, ?_⟩;refine iter_end (l := 0) (tb rfl ?_) rfl;unfold S552L0;refine st_some len_tl ?_;refine st_some (lss_f (by omega)) ?_
  rfl
 | m + 1, k, hk, hi, F, hF => by
  obtain ⟨F, rfl⟩ : ∃ E, F = E + 1 := ⟨F - 1, by omega⟩
  have hlt : k < es.length := by omega
  rw [List.drop_eq_getElem_cons hlt] at hi;have hti := p_ti hlt;rw [getD_lt hlt] at hti;generalize es[k] = t at hi hti;have c1 : gcall G none 453 [.int a, .int b] 1 = some [.int (min a b)] := gcall_on g453 rfl rfl rfl;have c2 : gcall G none 210 [.int a, .int b] 1 = some [.int (max a b)] := gcall_on g210 rfl rfl rfl
  match t, hi, hti with
  | x :: y :: t, hi, hti =>
  have h0 : gev none .idx [il (x :: y :: t), .int 0] = some (.int x) := by
   have := p_ii (l := x :: y :: t) (i := 0) (by simp)
   exact this
  have h1 : gev none .idx [il (x :: y :: t), .int 1] = some (.int y) := by
   have := p_ii (l := x :: y :: t) (i := 1) (by simp)
   exact this
  rw [idxP] at hi;have hadd := add1n (i := k) (by omega)
  by_cases hx : x = min a b
  ·by_cases hy : y = max a b
   ·rw [if_pos ⟨beq_iff_eq.2 hx, beq_iff_eq.2 hy⟩] at hi
    simp only [Option.some.injEq] at hi
    right
    rw [← hi];refine iter_end (l := 1) (tb rfl ?_) rfl;unfold S552L0;refine st_some len_tl ?_;refine st_some (lss_t (by omega)) ?_
    refine st_ift ?_;refine st_some hti ?_;refine st_some h0 ?_;refine st_some c1 ?_;refine st_some (eql_t hx) ?_;refine st_some (g_tt.trans p_id) ?_;refine st_some (g_tt.trans p_id) ?_;refine st_some (g_tt.trans hti) ?_;refine st_some (g_tt.trans p_id) ?_;refine st_some (g_tt.trans h1) ?_;refine st_some (g_tt.trans p_id) ?_;refine st_some (g_tt.trans p_id) ?_;refine st_some (g_tt.trans p_id) ?_;refine st_some (c_tt.trans c2) ?_;refine st_some (g_tt.trans (eql_t hy)) ?_;refine st_some p_pt ?_;refine st_ift ?_;rfl
   ·rw [if_neg (fun h => hy (beq_iff_eq.1 h.2))] at hi
    have ih := idx_loop g453 g210 hl m (k + 1) (by omega) hi F (by omega)
    have hb : S552L0 G (tl es) (.int a) (.int b) [.int (k : Int)] = some (0, [.int ((k + 1 : Nat) : Int)]) := by
     unfold S552L0;refine st_some len_tl ?_;refine st_some (lss_t (by omega)) ?_
     refine st_ift ?_;refine st_some hti ?_;refine st_some h0 ?_;refine st_some c1 ?_;refine st_some (eql_t hx) ?_;refine st_some (g_tt.trans p_id) ?_;refine st_some (g_tt.trans p_id) ?_;refine st_some (g_tt.trans hti) ?_;refine st_some (g_tt.trans p_id) ?_;refine st_some (g_tt.trans h1) ?_;refine st_some (g_tt.trans p_id) ?_;refine st_some (g_tt.trans p_id) ?_;refine st_some (g_tt.trans p_id) ?_;refine st_some (c_tt.trans c2) ?_;refine st_some (g_tt.trans (eql_f hy)) ?_;refine st_some p_pt ?_;refine st_iff ?_;refine st_some hadd ?_;rfl
    rcases ih with ⟨ds, i1, i2, i3⟩ | i3
    ·exact .inl ⟨ds, i1, i2, iter_go (tb rfl hb) i3⟩
    ·exact .inr (iter_go (tb rfl hb) i3)
  ·rw [if_neg (fun h => hx (beq_iff_eq.1 h.1))] at hi
   have ih := idx_loop g453 g210 hl m (k + 1) (by omega) hi F (by omega)
   have hb : S552L0 G (tl es) (.int a) (.int b) [.int (k : Int)] = some (0, [.int ((k + 1 : Nat) : Int)]) := by
    unfold S552L0;refine st_some len_tl ?_;refine st_some (lss_t (by omega)) ?_
    refine st_ift ?_;refine st_some hti ?_;refine st_some h0 ?_;refine st_some c1 ?_;refine st_some (eql_f hx) ?_;refine st_some g_ft ?_;refine st_some g_ft ?_;refine st_some g_ft ?_;refine st_some g_ft ?_;refine st_some g_ft ?_;refine st_some g_ft ?_;refine st_some g_ft ?_;refine st_some g_ft ?_;refine st_some c_ft ?_;refine st_some g_ft ?_;refine st_some p_pf ?_;refine st_iff ?_;refine st_some hadd ?_;rfl
   rcases ih with ⟨ds, i1, i2, i3⟩ | i3
   ·exact .inl ⟨ds, i1, i2, iter_go (tb rfl hb) i3⟩
   ·exact .inr (iter_go (tb rfl hb) i3)
theorem run552 {G : Told} (g210 : G 210 = F210m) (g453 : G 453 = F453) : Runs G F552 T552 := by
 intro ds rs h
 unfold F552 at h
 split at h
 case h_2 => cases h
 rename_i e a b
 split at h
 case h_2 => cases h
 rename_i es he
 split at h
 case isFalse => cases h
 rename_i hl
 obtain ⟨r, hr, rfl⟩ := Option.map_eq_some_iff.1 h
 refine ⟨1001, ?_⟩
 rw [tlC_ok he, eq552]
 unfold S552
 rcases idx_loop g453 g210 hl es.length 0 (by omega) hr 1001 (by omega) with ⟨ds, i1, i2, i3⟩ | i3
 ·subst i2
  exact st_join i3 i1 rfl
 ·exact st_out (l := 0) i3 rfl
end Vs
