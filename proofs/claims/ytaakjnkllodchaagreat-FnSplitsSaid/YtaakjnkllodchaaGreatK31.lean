/-
  An edge is split, and the law SplitEdge.
-/
import Derived.Test.YtaakjnkllodchaaGreatK29
set_option maxHeartbeats 4000000
namespace Vs
open Go Go.Sort
def betP (a b : V3) (s : Nat) : V3 := V3.add a (V3.scale ⟨fsub .f32 b.x a.x, fsub .f32 b.y a.y, fsub .f32 b.z a.z⟩ s)
def F424 : List D → Option (List D) | [.flt a, .flt b, .flt c, .flt x, .flt y, .flt z, .flt s] => some (betP ⟨a, b, c⟩ ⟨x, y, z⟩ s).ds | _ => none
def sharP (s : Nat) : Bool := fgt .f32 s 0 && flt .f32 s 1065353216
def splS (ts : List (List Int)) (p q c : Int) (acc : List (List Int)) (j : Int) : List (List Int) :=
 if goesA ts p q j = true then acc.set j.toNat [p, c, thirdP (ts.getD j.toNat []) p q] ++ [[c, q, thirdP (ts.getD j.toNat []) p q]]
 else acc.set j.toNat [q, c, thirdP (ts.getD j.toNat []) p q] ++ [[c, p, thirdP (ts.getD j.toNat []) p q]]
def splN (ts : List (List Int)) (p q c : Int) : Nat → List (List Int)
 | 0 => ts
 | i + 1 => splS ts p q c (splN ts p q c i) ((atL ts p q).getD i 0)
def splT (ts : List (List Int)) (p q c : Int) : List (List Int) := splN ts p q c (atL ts p q).length
def goodS (n : Nat) (ts : List (List Int)) (p q : Int) : Bool := !decide ((atL ts p q).length = 0) && (validP (n + 1) (splT ts p q n) && sheetP (splT ts p q n))
def midV (vs : List V3) (p q : Int) (s : Nat) : V3 := betP (atV vs p) (atV vs q) s
noncomputable def F422 : List D → Option (List D)
 | [a, b, .int p, .int q, .flt s] => (dV a).bind fun vs => (dT b).bind fun ts => if szM vs ts ≤ 1048576 then some (if (pairP vs.length ts p q && sharP s && goodS vs.length ts p q) = true then [vl (vs ++ [midV vs p q s]), tl (splT ts p q vs.length), .bool true] else [vl [], tl [], .bool false]) else none
 | _ => none
theorem F422_m {vs : List V3} {ts : List (List Int)} {p q : Int} {s : Nat} (h : szM vs ts ≤ 1048576) : F422 [vl vs, tl ts, .int p, .int q, .flt s] = some (if (pairP vs.length ts p q && sharP s && goodS vs.length ts p q) = true then [vl (vs ++ [midV vs p q s]), tl (splT ts p q vs.length), .bool true] else [vl [], tl [], .bool false]) := by
 simp only [F422, dV_vl, dT_tl, Option.bind_some]
 rw [if_pos h]
def T424 : T :=
(cc 13 [3, 4, 5, 0, 1, 2] 3 <|
cc 31 [7, 8, 9, 6] 3 <|
cc 30 [0, 1, 2, 10, 11, 12] 3 <|
.out 0 [13, 14, 15])
def S424 (G : Told) (_fuel : Nat) (x0 x1 x2 x3 x4 x5 x6 : D) : Option (Nat × List D) :=
 (gcall G none 13 [x3, x4, x5, x0, x1, x2] 3).bind fun e7 =>
 (gcall G none 31 [e7.getD 0 .undef, e7.getD 1 .undef, e7.getD 2 .undef, x6] 3).bind fun e10 =>
 (gcall G none 30 [x0, x1, x2, e10.getD 0 .undef, e10.getD 1 .undef, e10.getD 2 .undef] 3).bind fun e13 =>
 some (0, [e13.getD 0 .undef, e13.getD 1 .undef, e13.getD 2 .undef])
theorem eq424 {G fuel} (x0 x1 x2 x3 x4 x5 x6) : run G fuel T424 [x0, x1, x2, x3, x4, x5, x6] = S424 G fuel x0 x1 x2 x3 x4 x5 x6 := by rw [run_eq]; kernel_rfl
def T422 : T :=
(cc 410 [0, 1, 2, 3] 1 <|
oo .bnot [5] <|
oN 6 .id [4] <|
oN 6 (.fcm .gtr .f32) [7, kF 0] <|
oN 6 .id [8] <|
oT 9 .id [4] <|
oT 9 (.fcm .lss .f32) [10, kF 1065353216] <|
oN 6 .pick [9, 11, kN] <|
oN 6 .bnot [12] <|
oo .pick [6, kT, 13] <|
.ite 14
 (.out 0 [kL, kL, kN])
 (oo .mklst [2, 3] <|
 cc 411 [0, 1, 15] 1 <|
 oo .len [16] <|
 oo (.icm .eql) [17, kI 0] <|
 .ite 18
  (.out 0 [kL, kL, kN])
  (cc 151 [0, 1] 2 <|
  oo .len [19] <|
  oo .idx [0, 2] <|
  oo (.proj 0) [22] <|
  oo (.proj 1) [22] <|
  oo (.proj 2) [22] <|
  oo .idx [0, 3] <|
  oo (.proj 0) [26] <|
  oo (.proj 1) [26] <|
  oo (.proj 2) [26] <|
  cc 424 [23, 24, 25, 27, 28, 29, 4] 3 <|
  oo .mkagg [30, 31, 32] <|
  oo .mklst [33] <|
  oo .app [19, 34] <|
  oo .len [16] <|
  .join 3
   (.loop [20, kI 0]
    (oo (.icm .lss) [38, 36] <|
    .ite 39
     (oo .idx [16, 38] <|
     oo .idx [16, 38] <|
     oo .idx [1, 41] <|
     cc 400 [2, 3] 2 <|
     cc 408 [42, 43, 44] 1 <|
     oo .idx [1, 41] <|
     cc 407 [46, 2, 3] 1 <|
     .join 1
      (.ite 47
       (oo .mklst [2, 21, 45] <|
       oo .idx [37, 41] <|
       oo .set [37, 41, 48] <|
       oo .mklst [21, 3, 45] <|
       oo .mklst [51] <|
       oo .app [50, 52] <|
       .out 0 [53])
       (oo .mklst [3, 21, 45] <|
       oo .idx [37, 41] <|
       oo .set [37, 41, 48] <|
       oo .mklst [21, 2, 45] <|
       oo .mklst [51] <|
       oo .app [50, 52] <|
       .out 0 [53]))
     (oo (.iar .add .i64) [38, kI 1] <|
     .out 0 [48, 49]))
     (.out 1 [37, 38, 39])))
  (cc 403 [35, 37] 1 <|
  oo .bnot [40] <|
  .ite 41
   (.out 0 [kL, kL, kN])
   (.out 0 [35, 37, kT])))))
def S422L0 (G : Told) (x1 : D) (x2 : D) (x3 : D) (e16 : List D) (x21 : D) (x36 : D) : List D → Option (Nat × List D) := fun e37 =>
     (gev none (.icm .lss) [e37.getD 1 .undef, x36]).bind fun x39 =>
     tif x39 (
      (gev none .idx [e16.getD 0 .undef, e37.getD 1 .undef]).bind fun _x40 =>
      (gev none .idx [e16.getD 0 .undef, e37.getD 1 .undef]).bind fun x41 =>
      (gev none .idx [x1, x41]).bind fun x42 =>
      (gcall G none 400 [x2, x3] 2).bind fun e43 =>
      (gcall G none 408 [x42, e43.getD 0 .undef, e43.getD 1 .undef] 1).bind fun e45 =>
      (gev none .idx [x1, x41]).bind fun x46 =>
      (gcall G none 407 [x46, x2, x3] 1).bind fun e47 =>
      tjoin 1 (
       tif (e47.getD 0 .undef) (
        (gev none .mklst [x2, x21, e45.getD 0 .undef]).bind fun x48 =>
        (gev none .idx [e37.getD 0 .undef, x41]).bind fun _x49 =>
        (gev none .set [e37.getD 0 .undef, x41, x48]).bind fun x50 =>
        (gev none .mklst [x21, x3, e45.getD 0 .undef]).bind fun x51 =>
        (gev none .mklst [x51]).bind fun x52 =>
        (gev none .app [x50, x52]).bind fun x53 =>
        some (0, [x53])) (
        (gev none .mklst [x3, x21, e45.getD 0 .undef]).bind fun x48 =>
        (gev none .idx [e37.getD 0 .undef, x41]).bind fun _x49 =>
        (gev none .set [e37.getD 0 .undef, x41, x48]).bind fun x50 =>
        (gev none .mklst [x21, x2, e45.getD 0 .undef]).bind fun x51 =>
        (gev none .mklst [x51]).bind fun x52 =>
        (gev none .app [x50, x52]).bind fun x53 =>
        some (0, [x53]))) fun e48 =>
      (gev none (.iar .add .i64) [e37.getD 1 .undef, .int 1]).bind fun x49 =>
      some (0, [e48.getD 0 .undef, x49])) (
      some (1, [e37.getD 0 .undef, e37.getD 1 .undef, x39]))
def S422 (G : Told) (fuel : Nat) (x0 x1 x2 x3 x4 : D) : Option (Nat × List D) :=
 (gcall G none 410 [x0, x1, x2, x3] 1).bind fun e5 =>
 (gev none .bnot [e5.getD 0 .undef]).bind fun x6 =>
 (gev (some (x6, false)) .id [x4]).bind fun x7 =>
 (gev (some (x6, false)) (.fcm .gtr .f32) [x7, .flt 0]).bind fun x8 =>
 (gev (some (x6, false)) .id [x8]).bind fun x9 =>
 (gev (some (x9, true)) .id [x4]).bind fun x10 =>
 (gev (some (x9, true)) (.fcm .lss .f32) [x10, .flt 1065353216]).bind fun x11 =>
 (gev (some (x6, false)) .pick [x9, x11, .bool false]).bind fun x12 =>
 (gev (some (x6, false)) .bnot [x12]).bind fun x13 =>
 (gev none .pick [x6, .bool true, x13]).bind fun x14 =>
 tif x14 (
  some (0, [(.lst []), (.lst []), (.bool false)])) (
  (gev none .mklst [x2, x3]).bind fun x15 =>
  (gcall G none 411 [x0, x1, x15] 1).bind fun e16 =>
  (gev none .len [e16.getD 0 .undef]).bind fun x17 =>
  (gev none (.icm .eql) [x17, .int 0]).bind fun x18 =>
  tif x18 (
   some (0, [(.lst []), (.lst []), (.bool false)])) (
   (gcall G none 151 [x0, x1] 2).bind fun e19 =>
   (gev none .len [e19.getD 0 .undef]).bind fun x21 =>
   (gev none .idx [x0, x2]).bind fun x22 =>
   (gev none (.proj 0) [x22]).bind fun x23 =>
   (gev none (.proj 1) [x22]).bind fun x24 =>
   (gev none (.proj 2) [x22]).bind fun x25 =>
   (gev none .idx [x0, x3]).bind fun x26 =>
   (gev none (.proj 0) [x26]).bind fun x27 =>
   (gev none (.proj 1) [x26]).bind fun x28 =>
   (gev none (.proj 2) [x26]).bind fun x29 =>
   (gcall G none 424 [x23, x24, x25, x27, x28, x29, x4] 3).bind fun e30 =>
   (gev none .mkagg [e30.getD 0 .undef, e30.getD 1 .undef, e30.getD 2 .undef]).bind fun x33 =>
   (gev none .mklst [x33]).bind fun x34 =>
   (gev none .app [e19.getD 0 .undef, x34]).bind fun x35 =>
   (gev none .len [e16.getD 0 .undef]).bind fun x36 =>
   tjoin 3 (
    iter (tbody 2 (S422L0 G x1 x2 x3 e16 x21 x36)) fuel [e19.getD 1 .undef, .int 0]) fun e37 =>
   (gcall G none 403 [x35, e37.getD 0 .undef] 1).bind fun e40 =>
   (gev none .bnot [e40.getD 0 .undef]).bind fun x41 =>
   tif x41 (
    some (0, [(.lst []), (.lst []), (.bool false)])) (
    some (0, [x35, e37.getD 0 .undef, .bool true]))))
theorem eq422 {G fuel} (x0 x1 x2 x3 x4) : run G fuel T422 [x0, x1, x2, x3, x4] = S422 G fuel x0 x1 x2 x3 x4 := by rw [run_eq]; kernel_rfl
theorem ge_of_gt {s : Nat} (h : fgt .f32 s 0 = true) : fge .f32 s 1065353216 = !(flt .f32 s 1065353216) := by
 unfold fgt Ieee.Format.order at h
 unfold fge flt Ieee.Format.order
 have e : FloatKind.f32.format.read 1065353216 = .number false 8388608 (-23) := by decide +kernel
 rw [e]
 generalize FloatKind.f32.format.read s = X at *
 cases X with
 | nan _ _ => simp [Ieee.Datum.order] at h
 | infinity t => cases t <;> rfl
 | number t m i =>
  simp only [Ieee.Datum.order];generalize compare (α := Int) _ _ = o
  cases o <;> rfl
theorem totL_all {ts : List (List Int)} (h : ∀ u ∈ ts, u.length = 3) : totL ts = 3 * ts.length := by
 unfold totL
 induction ts with
 | nil => rfl
 | cons t ts ih =>
  rw [List.map_cons, List.sum_cons, ih (fun u hu => h u (List.mem_cons_of_mem _ hu)), h t List.mem_cons_self, List.length_cons]
  omega
theorem splS_len (ts : List (List Int)) (p q c : Int) (acc : List (List Int)) (j : Int) : (splS ts p q c acc j).length = acc.length + 1 := by
 unfold splS
 split <;> simp
theorem splS_3 {ts : List (List Int)} {p q c : Int} {acc : List (List Int)} {j : Int} (h : ∀ u ∈ acc, u.length = 3) : ∀ u ∈ splS ts p q c acc j, u.length = 3 := by
  intro u hu
  unfold splS at hu
  split at hu <;>
    (rcases List.mem_append.1 hu with hu | hu
     · rcases List.mem_or_eq_of_mem_set hu with hu | rfl
       · exact h u hu
       · rfl
     · rw [List.mem_singleton] at hu
       rw [hu]
       rfl)
theorem splN_len (ts : List (List Int)) (p q c : Int) : ∀ i, (splN ts p q c i).length = ts.length + i
 | 0 => rfl
 | i + 1 => by show (splS ts p q c (splN ts p q c i) _).length = _;rw [splS_len, splN_len ts p q c i, Nat.add_assoc]
theorem splN_3 {ts : List (List Int)} {p q c : Int} (h : ∀ u ∈ ts, u.length = 3) : ∀ i, ∀ u ∈ splN ts p q c i, u.length = 3
 | 0 => h
 | i + 1 => splS_3 (splN_3 h i)
theorem atL_len (ts : List (List Int)) (p q : Int) : (atL ts p q).length ≤ ts.length := atN_len ts p q ts.length
theorem szM_spl {n : Nat} {vs : List V3} {ts : List (List Int)} (hv : validP n ts = true) (hn : vs.length = n) {p q : Int} (v : V3) (c : Int) : szM (vs ++ [v]) (splT ts p q c) ≤ 1048576 := by
 obtain ⟨h1, h2⟩ := valid_len hv
 have h3 := atL_len ts p q
 have h4 := splN_len ts p q c (atL ts p q).length
 unfold szM splT
 rw [totL_all (splN_3 (tri3 hv) _), h4, List.length_append]
 simp only [List.length_cons, List.length_nil]
 omega
theorem p_lt1 {t : List Int} : gev none .mklst [il t] = some (.lst [il t]) := (rfl)
theorem p_vec3 {x y z : Nat} : gev none .mkagg [.flt x, .flt y, .flt z] = some (vec ⟨x, y, z⟩) := (rfl)
theorem p_lv1 {v : V3} : gev none .mklst [vec v] = some (.lst [vec v]) := (rfl)
theorem run424 {G : Told} (g13 : G 13 = F13) (g30 : G 30 = F30) (g31 : G 31 = F31) : Runs G F424 T424 := by
 intro ds rs h
 unfold F424 at h
 split at h <;> simp only [Option.some.injEq, reduceCtorEq] at h
 subst h
 refine ⟨0, ?_⟩
 rw [eq424]
 unfold S424
 repeat' first
  | ((with_reducible apply st_call); assumption; exact rfl; exact rfl; exact rfl)
  | exact rfl
attribute [local irreducible] IntKind.wrap il tl vl bo mpD kD inr validP sheetP longP fsub lenP atV flC flD oneI twoI pairP flipQ atL betP thirdP fgt flt fge

theorem spl_step {n : Nat} {ts : List (List Int)} (hv : validP n ts = true) {G : Told} (g407 : G 407 = F407) (g408 : G 408 = F408) {p q c : Int} (hpq : p ≠ q) {i : Nat} (hi : i < (atL ts p q).length) :
  ∃ j : Int, (atL ts p q).getD i 0 = j ∧ gev none .idx [il (atL ts p q), .int (i : Int)] = some (.int j) ∧ gev none .idx [tl ts, .int j] = some (il (ts.getD j.toNat [])) ∧
   gcall G none 407 [il (ts.getD j.toNat []), .int p, .int q] 1 = some [.bool (goesA ts p q j)] ∧
   gcall G none 408 [il (ts.getD j.toNat []), .int p, .int q] 1 = some [.int (thirdP (ts.getD j.toNat []) p q)] ∧
   gcall G none 408 [il (ts.getD j.toNat []), .int (min p q), .int (max p q)] 1 = some [.int (thirdP (ts.getD j.toNat []) p q)] ∧
   gev none .idx [tl (splN ts p q c i), .int j] = some (il ((splN ts p q c i).getD j.toNat [])) ∧
   (∀ t : List Int, gev none .set [tl (splN ts p q c i), .int j, il t] = some (tl ((splN ts p q c i).set j.toNat t))) ∧
   (∀ (k : Nat) (t u : List Int), gev none .app [tl ((splN ts p q c i).set k t), .lst [il u]] = some (tl ((splN ts p q c i).set k t ++ [u]))) := by
 have hj : (atL ts p q).getD i 0 ∈ atL ts p q := by rw [getD_lt hi];exact List.getElem_mem hi
 have hin := atL_in hj
 obtain ⟨k1, k2⟩ := goes_at (triOk_of hv) g407 hj p q
 obtain ⟨c1, c2, _⟩ := third_at hv g408 hpq hj
 have hl := splN_len ts p q c i
 have h3 := atL_len ts p q
 obtain ⟨_, h4⟩ := valid_len hv
 refine ⟨_, rfl, p_ii hi, k1, k2, c1, c2, p_tj hin.1 (by omega), fun t => p_sj hin.1 (by omega), fun k t u => app_tl (by rw [List.length_set]; omega)⟩
theorem run422 {G : Told} (g410 : G 410 = F410) (g411 : G 411 = F411) (g151 : G 151 = F151) (g424 : G 424 = F424) (g400 : G 400 = F400) (g407 : G 407 = F407) (g408 : G 408 = F408) (g403 : G 403 = F403) : Runs G F422 T422 := by
 intro ds rs h
 unfold F422 at h
 split at h
 case h_2 => cases h
 rename_i a b p q s
 obtain ⟨vs, ha, h⟩ := Option.bind_eq_some_iff.1 h
 obtain ⟨ts, hb, h⟩ := Option.bind_eq_some_iff.1 h
 rw [dV_inv ha, dT_inv hb]
 split at h
 case isFalse => cases h
 rename_i hc
 simp only [Option.some.injEq] at h
 subst h
 clear ha
 clear hb
 refine ⟨1000, ?_⟩
 rw [eq422]
 unfold S422
 have cp : gcall G none 410 [vl vs, tl ts, .int p, .int q] 1 = some [.bool (pairP vs.length ts p q)] := gcall_on g410 rfl (F410_m hc) rfl
 unfold sharP
 cases hpp : pairP vs.length ts p q with
 | false =>
  rw [hpp] at cp;rw [if_neg (by simp), ← vlnil, ← tlnil]
  simp only [ev0, g_u, p_lst, p_agg, cp]
 | true =>
 rw [hpp] at cp
 have hok := pair_ok hpp
 cases hg : fgt .f32 s 0 with
 | false =>
  rw [if_neg (by simp), ← vlnil, ← tlnil]
  simp only [ev0, p_lst, p_agg, p_fgtr, cp, hg]
 | true =>
 have hge := ge_of_gt hg
 cases hl : flt .f32 s 1065353216 with
 | false =>
  rw [hl] at hge;rw [if_neg (by simp), ← vlnil, ← tlnil]
  simp only [ev0, p_lst, p_agg, p_flss, p_fgtr, cp, hg, hl]
 | true =>
 rw [hl] at hge
 obtain ⟨hv, hp, hq, hpq⟩ := okP_ok hok
 have hsz := hc
 have hv1 : gev none .idx [vl vs, .int p] = some (vec (atV vs p)) := by unfold atV; exact p_vj hp.1 (by omega)
 have hv2 : gev none .idx [vl vs, .int q] = some (vec (atV vs q)) := by unfold atV; exact p_vj hq.1 (by omega)
 obtain ⟨hn64, h128⟩ := valid_len hv
 have hal := atL_len ts p q
 have h64 := valid64 hv
 have cc : gcall G none 151 [vl vs, tl ts] 2 = some [vl vs, tl ts] := gcall_on g151 rfl (F145_m hsz) rfl
 have cb : gcall G none 424 [.flt (atV vs p).x, .flt (atV vs p).y, .flt (atV vs p).z, .flt (atV vs q).x, .flt (atV vs q).y, .flt (atV vs q).z, .flt s] 3 = some [.flt (midV vs p q s).x, .flt (midV vs p q s).y, .flt (midV vs p q s).z] := gcall_on g424 rfl rfl rfl
 have ap := app_vl (l := vs) (v := midV vs p q s) (by omega)
 have hlv := len_vl (l := vs)
 have hll := len_il (l := atL ts p q)
 have hsp := szM_spl (vs := vs) hv rfl (p := p) (q := q) (midV vs p q s) (vs.length : Int)
 have hln : (vs ++ [midV vs p q s]).length = vs.length + 1 := by simp
 have ca : gcall G none 411 [vl vs, tl ts, il [p, q]] 1 = some [il (atL ts p q)] := gcall_on g411 rfl (F411_m h64) rfl
 have ce : gcall G none 400 [.int p, .int q] 2 = some [.int (min p q), .int (max p q)] := gcall_on g400 rfl F400_m rfl
 have ck : gcall G none 403 [vl (vs ++ [midV vs p q s]), tl (splT ts p q vs.length)] 1 = some [.bool (validP (vs.length + 1) (splT ts p q vs.length) && sheetP (splT ts p q vs.length))] := gcall_on g403 rfl (by rw [F403_m hsp, hln]) rfl
 rw [Bool.true_and, Bool.true_and]
 by_cases h0 : (atL ts p q).length = 0
 case pos =>
  have hz : (((atL ts p q).length : Int) == 0) = true := by rw [h0]; rfl
  have hgd : goodS vs.length ts p q = false := by unfold goodS; rw [decide_eq_true h0]; rfl
  rw [hgd, if_neg (by simp), ← vlnil, ← tlnil]
  simp only [ev0, p_agg, p_flss, p_fgtr, cp, hg, hl, p_il2, ca, hll, hz]
 case neg =>
  have hz : (((atL ts p q).length : Int) == 0) = false := by rw [beq_eq_false_iff_ne]; omega
  have hgd : goodS vs.length ts p q = (validP (vs.length + 1) (splT ts p q vs.length) && sheetP (splT ts p q vs.length)) := by unfold goodS; rw [decide_eq_false h0]; rfl
  rw [hgd];have hit : iter (tbody 2 (S422L0 G (tl ts) (.int p) (.int q) [il (atL ts p q)] (.int (vs.length : Int)) (.int ((atL ts p q).length : Int)))) 1000 [tl ts, .int 0] = some (0, [tl (splT ts p q vs.length), .int ((atL ts p q).length : Int), .bool false]) := by
   refine iter_to (body := tbody 2 (S422L0 G (tl ts) (.int p) (.int q) [il (atL ts p q)] (.int (vs.length : Int)) (.int ((atL ts p q).length : Int)))) (n := (atL ts p q).length) (f := 1000) (l := 0) (fun i => [tl (splN ts p q vs.length i), .int (i : Int)]) (by omega) (fun i hi => ?_) ?_
   ·refine tb rfl ?_
    obtain ⟨j, ej, i1, i2, c1, c2, c3, i3, s1, a1⟩ := spl_step (c := (vs.length : Int)) hv g407 g408 hpq hi;have h0 : decide ((i : Int) < ((atL ts p q).length : Int)) = true := by simpa using hi
    have hadd := add1n (i := i) (by omega)
    have e : splN ts p q vs.length (i + 1) = splS ts p q vs.length (splN ts p q vs.length i) j := by rw [← ej]; rfl
    rw [e];unfold splS S422L0
    cases hg : goesA ts p q j with
    | true =>
     rw [hg] at c1;rw [if_pos rfl];simp only [ev0, j_0, List.length_cons, List.length_nil, Nat.zero_add, if_true, h0, i1, i2, c1, c3, i3, s1, a1, hadd, p_il3, p_lt1, ce]
    | false =>
     rw [hg] at c1;rw [if_neg (by simp)]
     simp only [ev0, j_0, List.length_cons, List.length_nil, Nat.zero_add, if_true, h0, i1, i2, c1, c3, i3, s1, a1, hadd, p_il3, p_lt1, ce]
   ·refine tb rfl ?_
    have h0 : decide (((atL ts p q).length : Int) < ((atL ts p q).length : Int)) = false := by simp
    unfold S422L0 splT;simp only [ev0, p_add, Nat.zero_add, h0, ce]
  generalize (validP (vs.length + 1) (splT ts p q vs.length) && sheetP (splT ts p q vs.length)) = bs at *
  cases bs
  ·rw [if_neg (by simp), ← vlnil, ← tlnil]
   simp only [ev0, j_0, p_v0, p_v1, p_v2, p_flss, p_fgtr, List.length_cons, List.length_nil, Nat.zero_add, Nat.reduceAdd, if_true, cp, hg, hl, p_il2, ca, hll, hz, cc, hlv, hv1, hv2, cb, p_vec3, p_lv1, ap, hit, ck]
  ·rw [if_pos (show (true && true) = true from rfl)]
   simp only [ev0, j_0, p_v0, p_v1, p_v2, p_flss, p_fgtr, List.length_cons, List.length_nil, Nat.zero_add, Nat.reduceAdd, if_true, cp, hg, hl, p_il2, ca, hll, hz, cc, hlv, hv1, hv2, cb, p_vec3, p_lv1, ap, hit, ck]
attribute [local irreducible] tif tjoin feq fadd fmul fdiv i2f wide totL szM triP goodS splT midV sharP

end Vs
