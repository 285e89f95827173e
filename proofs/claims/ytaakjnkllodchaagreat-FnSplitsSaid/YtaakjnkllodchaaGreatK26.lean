/-
  The triangles of each edge (a map), and the edges in order; which meshes are sheets, by maps.
-/
import Derived.Test.YtaakjnkllodchaaGreatK25
set_option maxHeartbeats 4000000
namespace Vs
open Go Go.Sort
section
variable {β : Type} {f : β → D} {kvs : List (E2 × β)} {e : E2}
theorem q_get {z : D} (h : kIn e = true) : gev none .mget [mpD f kvs, kD e, z] = some (((lk kvs e).map f).getD z) := mget_mp h
theorem q_set {v : β} (h : kIn e = true) : gev none .mset [mpD f kvs, kD e, f v] = some (mpD f (pt kvs e v)) := mset_mp h
theorem q_ent {z : β} (h : kIn e = true) : gev none .ment [mpD f kvs, kD e, f z] = some (mpD f (pt kvs e ((lk kvs e).getD z))) := ment_mp h
theorem q_idx {j : Nat} (h : kIn e = true) (hj : ix kvs e = some j) : gev none .midx [mpD f kvs, kD e] = some (.int (j : Int)) := midx_mp h hj
theorem q_seti {j : Nat} {u v : β} (hj : kvs[j]? = some (e, u)) : gev none .mseti [mpD f kvs, .int (j : Int), f v] = some (mpD f (kvs.set j (e, v))) := mseti_mp hj
end
theorem getD_map {β : Type} (f : β → D) (o : Option β) (z : β) : (o.map f).getD (f z) = f (o.getD z) := by cases o <;> rfl
def edl (es : List E2) : D := .lst (es.map kD)
theorem app_edl {es : List E2} {e : E2} (h : es.length < 1048576) : gev none .app [edl es, .lst [kD e]] = some (edl (es ++ [e])) := by
 simp only [gev, gok, if_true, Prim.ev, edl]
 rw [if_pos (by simp; omega)]
 simp
theorem app_il1 {l : List Int} {v : Int} (h : l.length < 1048576) : gev none .app [il l, il [v]] = some (il (l ++ [v])) := app_il (by simp; omega)
theorem kD_mk (a b : Int) : gev none .mkagg [.int a, .int b] = some (kD (a, b)) := (rfl)
theorem kD_uE (a b : Int) : gev none .mkagg [.int (min a b), .int (max a b)] = some (kD (uE a b)) := (rfl)
theorem lst_nil : D.lst [] = il [] := (rfl)
theorem p_lk {e : E2} : gev none .mklst [kD e] = some (.lst [kD e]) := (rfl)
theorem edD_kD : edD = kD := rfl
theorem itf {body : List D → Option (Nat × List D)} {f g : Nat} {ds : List D} {r} (h : iter body f ds = some r) (hg : f ≤ g) : iter body g ds = some r := iter_mono (fun _ _ h => h) h hg
theorem kIn_uE {a b : Int} (h1 : 0 ≤ a ∧ a < 64) (h2 : 0 ≤ b ∧ b < 64) : kIn (uE a b) = true := by
 unfold kIn uE
 simp only [Bool.and_eq_true, decide_eq_true_eq]
 omega
theorem kIn_ab {a b : Int} (h1 : 0 ≤ a ∧ a < 64) (h2 : 0 ≤ b ∧ b < 64) : kIn (a, b) = true := by
 unfold kIn
 simp only [Bool.and_eq_true, decide_eq_true_eq]
 omega
theorem edOf_edl (es : List E2) : edOf (es.map kD) = some es := edOf_edD es
theorem valid64 {n : Nat} {ts : List (List Int)} (h : validP n ts = true) : validP 64 ts = true := by
 unfold validP at h ⊢
 simp only [Bool.and_eq_true, decide_eq_true_eq] at h ⊢
 refine ⟨⟨by omega, h.1.2⟩, ?_⟩
 rw [List.all_eq_true] at *
 intro t ht
 have := h.2 t ht
 have hn := h.1.1
 unfold triP at this ⊢
 split at this
 ·simp only [Bool.and_eq_true, List.all_cons, List.all_nil, Bool.and_true, inr, decide_eq_true_eq] at this ⊢
  obtain ⟨h1, ⟨h2, h3⟩, ⟨h4, h5⟩, h6, h7⟩ := this;exact ⟨h1, ⟨h2, by omega⟩, ⟨h4, by omega⟩, h6, by omega⟩
 ·cases this
theorem valid_len {n : Nat} {ts : List (List Int)} (h : validP n ts = true) : n ≤ 64 ∧ ts.length ≤ 128 := by
 unfold validP at h
 simp only [Bool.and_eq_true, decide_eq_true_eq] at h
 exact h.1
noncomputable def F401 : List D → Option (List D)
 | [_, b] => (dT b).bind fun ts => if validP 64 ts = true then some [mpD il (byT ts).1, edl (sortE (byT ts).2)] else none
 | _ => none
theorem F401_m {ts : List (List Int)} {a : D} (h : validP 64 ts = true) : F401 [a, tl ts] = some [mpD il (byT ts).1, edl (sortE (byT ts).2)] := by
 simp only [F401, dT_tl, Option.bind_some]
 rw [if_pos h]
noncomputable def F403 : List D → Option (List D)
 | [a, b] => (dV a).bind fun vs => (dT b).bind fun ts => if szM vs ts ≤ 1048576 then some [.bool (validP vs.length ts && sheetP ts)] else none
 | _ => none
theorem F403_m {vs : List V3} {ts : List (List Int)} (h : szM vs ts ≤ 1048576) : F403 [vl vs, tl ts] = some [.bool (validP vs.length ts && sheetP ts)] := by
 simp only [F403, dV_vl, dT_tl, Option.bind_some]
 rw [if_pos h]
def T401 : T :=
(oo .mklst [] <|
oo .len [1] <|
.join 4
 (.loop [kL, (.v 2), (.c (.int 0))]
  (oo (.icm .lss) [6, 3] <|
  .ite 7
   (oo .idx [1, 6] <|
   .join 4
    (.loop [4, 5, kI 0]
     (oo (.icm .lss) [11, kI 3] <|
     .ite 12
      (oo .idx [8, 11] <|
      oo (.iar .add .i64) [11, kI 1] <|
      oo (.idv .rem .i64) [14, kI 3] <|
      oo .idx [8, 15] <|
      cc 400 [13, 16] 2 <|
      oo .mkagg [17, 18] <|
      oo .mget [(.v 9), (.v 19), kL] <|
      oo .len [20] <|
      oo (.icm .eql) [21, kI 0] <|
      .join 1
       (.ite 22
        (oo .mkagg [17, 18] <|
        oo .mklst [23] <|
        oo .app [10, 24] <|
        .out 0 [25])
        (.out 0 [10]))
      (oo .mklst [6] <|
      oo .mkagg [17, 18] <|
      oo .ment [(.v 9), (.v 25), kL] <|
      oo .mget [(.v 26), (.v 25), kL] <|
      oo .midx [26, 25] <|
      oo .app [27, 24] <|
      oo .mseti [26, 28, 29] <|
      oo (.iar .add .i64) [11, kI 1] <|
      .out 0 [30, 23, 31]))
      (.out 1 [9, 10, 11, 12])))
   (oo (.iar .add .i64) [6, kI 1] <|
   .out 0 [9, 10, 13]))
   (.out 1 [4, 5, 6, 7])))
(cc 402 [5] 1 <|
.out 0 [4, 8]))
def S401L0 (G : Told) (e4 : List D) (x8 : D) : List D → Option (Nat × List D) := fun e9 =>
      (gev none (.icm .lss) [e9.getD 2 .undef, .int 3]).bind fun x12 =>
      tif x12 (
       (gev none .idx [x8, e9.getD 2 .undef]).bind fun x13 =>
       (gev none (.iar .add .i64) [e9.getD 2 .undef, .int 1]).bind fun x14 =>
       (gev none (.idv .rem .i64) [x14, .int 3]).bind fun x15 =>
       (gev none .idx [x8, x15]).bind fun x16 =>
       (gcall G none 400 [x13, x16] 2).bind fun e17 =>
       (gev none .mkagg [e17.getD 0 .undef, e17.getD 1 .undef]).bind fun x19 =>
       (gev none .mget [(e9.getD 0 .undef), x19, (.lst [])]).bind fun x20 =>
       (gev none .len [x20]).bind fun x21 =>
       (gev none (.icm .eql) [x21, .int 0]).bind fun x22 =>
       tjoin 1 (
        tif x22 (
         (gev none .mkagg [e17.getD 0 .undef, e17.getD 1 .undef]).bind fun x23 =>
         (gev none .mklst [x23]).bind fun x24 =>
         (gev none .app [e9.getD 1 .undef, x24]).bind fun x25 =>
         some (0, [x25])) (
         some (0, [e9.getD 1 .undef]))) fun e23 =>
       (gev none .mklst [e4.getD 2 .undef]).bind fun x24 =>
       (gev none .mkagg [e17.getD 0 .undef, e17.getD 1 .undef]).bind fun x25 =>
       (gev none .ment [(e9.getD 0 .undef), x25, (.lst [])]).bind fun x26 =>
       (gev none .mget [x26, x25, (.lst [])]).bind fun x27 =>
       (gev none .midx [x26, x25]).bind fun x28 =>
       (gev none .app [x27, x24]).bind fun x29 =>
       (gev none .mseti [x26, x28, x29]).bind fun x30 =>
       (gev none (.iar .add .i64) [e9.getD 2 .undef, .int 1]).bind fun x31 =>
       some (0, [x30, e23.getD 0 .undef, x31])) (
       some (1, [e9.getD 0 .undef, e9.getD 1 .undef, e9.getD 2 .undef, x12]))
def S401L1 (G : Told) (fuel : Nat) (x1 : D) (x3 : D) : List D → Option (Nat × List D) := fun e4 =>
   (gev none (.icm .lss) [e4.getD 2 .undef, x3]).bind fun x7 =>
   tif x7 (
    (gev none .idx [x1, e4.getD 2 .undef]).bind fun x8 =>
    tjoin 4 (
     iter (tbody 3 (S401L0 G e4 x8)) fuel [e4.getD 0 .undef, e4.getD 1 .undef, .int 0]) fun e9 =>
    (gev none (.iar .add .i64) [e4.getD 2 .undef, .int 1]).bind fun x13 =>
    some (0, [e9.getD 0 .undef, e9.getD 1 .undef, x13])) (
    some (1, [e4.getD 0 .undef, e4.getD 1 .undef, e4.getD 2 .undef, x7]))
def S401 (G : Told) (fuel : Nat) (_x0 x1 : D) : Option (Nat × List D) :=
 (gev none .mklst []).bind fun x2 =>
 (gev none .len [x1]).bind fun x3 =>
 tjoin 4 (
  iter (tbody 3 (S401L1 G fuel x1 x3)) fuel [(.lst []), x2, (.int 0)]) fun e4 =>
 (gcall G none 402 [e4.getD 1 .undef] 1).bind fun e8 =>
 some (0, [e4.getD 0 .undef, e8.getD 0 .undef])
theorem eq401 {G fuel} (x0 x1) : run G fuel T401 [x0, x1] = S401 G fuel x0 x1 := by rw [run_eq]; kernel_rfl
def T403 : T :=
(cc 150 [0, 1] 1 <|
oo .bnot [2] <|
.ite 3
 (.out 0 [kN])
 (oo .len [1] <|
 .join 4
  (.loop [kL, kL, (.c (.int 0))]
   (oo (.icm .lss) [7, 4] <|
   .ite 8
    (oo .idx [1, 7] <|
    .join 4
     (.loop [5, 6, kI 0]
      (oo (.icm .lss) [12, kI 3] <|
      .ite 13
       (oo .idx [9, 12] <|
       oo (.iar .add .i64) [12, kI 1] <|
       oo (.idv .rem .i64) [15, kI 3] <|
       oo .idx [9, 16] <|
       cc 400 [14, 17] 2 <|
       oo .mkagg [18, 19] <|
       oo .mget [11, 20, kI 0] <|
       oo (.iar .add .i64) [21, kI 1] <|
       oo .mkagg [18, 19] <|
       oo .ment [11, 23, kI 0] <|
       oo .mget [24, 23, kI 0] <|
       oo .midx [24, 23] <|
       oo .mseti [24, 26, 22] <|
       oo .mkagg [14, 17] <|
       oo .mget [10, 28, kN] <|
       oN 29 .mkagg [18, 19] <|
       oN 29 .mget [27, 30, kI 0] <|
       oN 29 (.icm .gtr) [31, kI 2] <|
       oo .pick [29, kT, 32] <|
       .ite 33
        (.out 4 [kN])
        (oo .mkagg [14, 17] <|
        oo .mset [10, 34, kT] <|
        oo (.iar .add .i64) [12, kI 1] <|
        .out 0 [35, 27, 36]))
       (.out 1 [10, 11, 12, 13])))
    (oo (.iar .add .i64) [7, kI 1] <|
    .out 0 [10, 11, 14]))
    (.out 1 [5, 6, 7, 8])))
 (.out 0 [kT])))
def S403L0 (G : Told) (x9 : D) : List D → Option (Nat × List D) := fun e10 =>
       (gev none (.icm .lss) [e10.getD 2 .undef, .int 3]).bind fun x13 =>
       tif x13 (
        (gev none .idx [x9, e10.getD 2 .undef]).bind fun x14 =>
        (gev none (.iar .add .i64) [e10.getD 2 .undef, .int 1]).bind fun x15 =>
        (gev none (.idv .rem .i64) [x15, .int 3]).bind fun x16 =>
        (gev none .idx [x9, x16]).bind fun x17 =>
        (gcall G none 400 [x14, x17] 2).bind fun e18 =>
        (gev none .mkagg [e18.getD 0 .undef, e18.getD 1 .undef]).bind fun x20 =>
        (gev none .mget [e10.getD 1 .undef, x20, .int 0]).bind fun x21 =>
        (gev none (.iar .add .i64) [x21, .int 1]).bind fun x22 =>
        (gev none .mkagg [e18.getD 0 .undef, e18.getD 1 .undef]).bind fun x23 =>
        (gev none .ment [e10.getD 1 .undef, x23, .int 0]).bind fun x24 =>
        (gev none .mget [x24, x23, .int 0]).bind fun _x25 =>
        (gev none .midx [x24, x23]).bind fun x26 =>
        (gev none .mseti [x24, x26, x22]).bind fun x27 =>
        (gev none .mkagg [x14, x17]).bind fun x28 =>
        (gev none .mget [e10.getD 0 .undef, x28, .bool false]).bind fun x29 =>
        (gev (some (x29, false)) .mkagg [e18.getD 0 .undef, e18.getD 1 .undef]).bind fun x30 =>
        (gev (some (x29, false)) .mget [x27, x30, .int 0]).bind fun x31 =>
        (gev (some (x29, false)) (.icm .gtr) [x31, .int 2]).bind fun x32 =>
        (gev none .pick [x29, .bool true, x32]).bind fun x33 =>
        tif x33 (
         some (4, [.bool false])) (
         (gev none .mkagg [x14, x17]).bind fun x34 =>
         (gev none .mset [e10.getD 0 .undef, x34, .bool true]).bind fun x35 =>
         (gev none (.iar .add .i64) [e10.getD 2 .undef, .int 1]).bind fun x36 =>
         some (0, [x35, x27, x36]))) (
        some (1, [e10.getD 0 .undef, e10.getD 1 .undef, e10.getD 2 .undef, x13]))
def S403L1 (G : Told) (fuel : Nat) (x1 : D) (x4 : D) : List D → Option (Nat × List D) := fun e5 =>
    (gev none (.icm .lss) [e5.getD 2 .undef, x4]).bind fun x8 =>
    tif x8 (
     (gev none .idx [x1, e5.getD 2 .undef]).bind fun x9 =>
     tjoin 4 (
      iter (tbody 3 (S403L0 G x9)) fuel [e5.getD 0 .undef, e5.getD 1 .undef, .int 0]) fun e10 =>
     (gev none (.iar .add .i64) [e5.getD 2 .undef, .int 1]).bind fun x14 =>
     some (0, [e10.getD 0 .undef, e10.getD 1 .undef, x14])) (
     some (1, [e5.getD 0 .undef, e5.getD 1 .undef, e5.getD 2 .undef, x8]))
def S403 (G : Told) (fuel : Nat) (x0 x1 : D) : Option (Nat × List D) :=
 (gcall G none 150 [x0, x1] 1).bind fun e2 =>
 (gev none .bnot [e2.getD 0 .undef]).bind fun x3 =>
 tif x3 (
  some (0, [.bool false])) (
  (gev none .len [x1]).bind fun x4 =>
  tjoin 4 (
   iter (tbody 3 (S403L1 G fuel x1 x4)) fuel [(.lst []), (.lst []), (.int 0)]) fun _e5 =>
  some (0, [.bool true]))
theorem eq403 {G fuel} (x0 x1) : run G fuel T403 [x0, x1] = S403 G fuel x0 x1 := by rw [run_eq]; kernel_rfl
theorem fold_len : ∀ (os : List (E2 × Int)) (s : St), (os.foldl addO s).2.length ≤ s.2.length + os.length
 | [], s => by simp
 | o :: os, s => by
  have h := fold_len os (addO s o);have h2 : (addO s o).2.length ≤ s.2.length + 1 := by
   simp only [addO];split
   ·simp
   ·omega
  simp only [List.foldl_cons, List.length_cons];omega
theorem occ_len (ts : List (List Int)) : ∀ i, (occN ts i).length = 3 * i
 | 0 => rfl
 | i + 1 => by simp only [occN, List.length_append, occ_len ts i];simp [occT, wayT];omega
theorem look_len {s : St} {os : List (E2 × Int)} (h : InvO s os) (e : E2) : ((lk s.1 e).getD []).length ≤ os.length := by
 rw [h.look, List.length_map]
 exact List.length_filter_le _ _
attribute [local irreducible] IntKind.wrap il tl vl mpD kD edl

theorem step401 {G : Told} (g400 : G 400 = F400) {s : St} {t : D} {i k a b k1 k2 : Int} (hk : decide (k < 3) = true) (hx : gev none .idx [t, .int k] = some (.int a)) (hw : IntKind.wrap .i64 (k + 1) = k1) (hm : k1.tmod 3 = k2)
  (hy : gev none .idx [t, .int k2] = some (.int b)) (ha : 0 ≤ a ∧ a < 64) (hb : 0 ≤ b ∧ b < 64) (h1 : s.2.length < 1048576) (h2 : ((lk s.1 (uE a b)).getD []).length < 1048576) {e4 : List D} (he : e4.getD 2 .undef = .int i) :
  S401L0 G e4 t [mpD il s.1, edl s.2, .int k] = some (0, [mpD il (addO s (uE a b, i)).1, edl (addO s (uE a b, i)).2, .int k1]) := by
 have hin := kIn_uE ha hb
 obtain ⟨s1, s2⟩ := s
 simp only at h1 h2
 have c1 : gcall G none 400 [.int a, .int b] 2 = some [.int (min a b), .int (max a b)] := gcall_on g400 rfl rfl rfl
 have q1 : gev none .mget [mpD il s1, kD (uE a b), il []] = some (il ((lk s1 (uE a b)).getD [])) := by rw [q_get hin, getD_map]
 have q2 := q_ent (f := il) (kvs := s1) (z := []) hin
 obtain ⟨j, j1, j2, u, j3, j4⟩ := ix_pt (uE a b) ((lk s1 (uE a b)).getD []) ((lk s1 (uE a b)).getD [] ++ [i]) s1
 have q3 : gev none .mget [mpD il (pt s1 (uE a b) ((lk s1 (uE a b)).getD [])), kD (uE a b), il []] = some (il ((lk s1 (uE a b)).getD [])) := by rw [q_get hin, getD_map, lk_pt, if_pos rfl]; rfl
 have q4 := q_idx (f := il) hin j1
 have q5 := app_il1 (v := i) h2
 have q6 := q_seti (f := il) (v := (lk s1 (uE a b)).getD [] ++ [i]) j3
 rw [j4] at q6
 have q7 := app_edl (e := uE a b) h1
 have hl := len_il (l := (lk s1 (uE a b)).getD [])
 unfold S401L0
 simp only [addO]
 generalize (lk s1 (uE a b)).getD [] = L at *
 by_cases hL : L.length = 0
 ·have d : (((L.length : Nat) : Int) == 0) = true := by simp [hL]
  rw [if_pos hL];simp only [ev0, j_0, p_add, p_rem3, List.length_cons, List.length_nil, Nat.zero_add, if_true, kD_uE, p_il1, p_lk, lst_nil, hk, hx, hw, hm, hy, c1, q1, hl, d, q7, he, q2, q3, q4, q5, q6]
 ·have d : (((L.length : Nat) : Int) == 0) = false := by rw [beq_eq_false_iff_ne]; omega
  rw [if_neg hL];simp only [ev0, j_0, p_add, p_rem3, List.length_cons, List.length_nil, Nat.zero_add, if_true, kD_uE, p_il1, p_lk, lst_nil, hk, hx, hw, hm, hy, c1, q1, hl, d, he, q2, q3, q4, q5, q6]
theorem run401 {G : Told} (g400 : G 400 = F400) (g402 : G 402 = F402) : Runs G F401 T401 := by
 intro ds rs h
 unfold F401 at h
 split at h
 case h_2 => cases h
 rename_i a b
 obtain ⟨ts, hb, h⟩ := Option.bind_eq_some_iff.1 h
 rw [dT_inv hb]
 split at h
 case isFalse => cases h
 rename_i hc
 simp only [Option.some.injEq] at h
 subst h
 clear hb
 have hT := triOk_of hc
 obtain ⟨_, h128⟩ := valid_len hc
 obtain ⟨fuel, hfu⟩ : ∃ fuel, fuel = 1000 := ⟨_, rfl⟩
 refine ⟨fuel, ?_⟩
 rw [eq401]
 unfold S401
 have hl := len_tl (l := ts)
 have houter : iter (tbody 3 (S401L1 G fuel (tl ts) (.int (ts.length : Int)))) fuel [mpD il (byO (occN ts 0)).1, edl (byO (occN ts 0)).2, .int ((0 : Nat) : Int)] = some (0, [mpD il (byT ts).1, edl (byT ts).2, .int (ts.length : Int), .bool false]) := by
  refine iter_to (body := tbody 3 (S401L1 G fuel (tl ts) (.int (ts.length : Int)))) (n := ts.length) (f := fuel) (l := 0) (fun i => [mpD il (byO (occN ts i)).1, edl (byO (occN ts i)).2, .int (i : Int)]) (by omega) (fun i hi => ?_) ?_
  ·refine tb rfl ?_
   obtain ⟨x, y, z, ht, _, _, _, hx, hy, hz⟩ := hT.at hi;have h0 : decide ((i : Int) < (ts.length : Int)) = true := by simpa using hi
   have hti := p_ti hi;rw [ht] at hti;have hadd := add1n (i := i) (by omega)
   have hinv := byO_inv (occN ts i);have hol := occ_len ts i;have hsl := fold_len (occN ts i) ([], []);simp only [List.length_nil, Nat.zero_add] at hsl;have hsl : (byO (occN ts i)).2.length ≤ 3 * i := by rw [← hol]; exact hsl
   have hnext : byO (occN ts (i + 1)) = addO (addO (addO (byO (occN ts i)) (uE x y, i)) (uE y z, i)) (uE z x, i) := by unfold byO;rw [occN, ht, List.foldl_append];rfl
   have inv1 := hinv.step (uE x y, (i : Int));have inv2 := inv1.step (uE y z, (i : Int));have al : ∀ (s : St) (o : E2 × Int), (addO s o).2.length ≤ s.2.length + 1 := fun s o => fold_len [o] s
   have l1 := al (byO (occN ts i)) (uE x y, (i : Int));have l2 := al (addO (byO (occN ts i)) (uE x y, (i : Int))) (uE y z, (i : Int));have k0 := look_len hinv (uE x y);have k1 := look_len inv1 (uE y z);have k2 := look_len inv2 (uE z x);simp only [List.length_append, List.length_cons, List.length_nil] at k1 k2;rw [hnext];generalize byO (occN ts i) = s0 at *;have e4 : ([mpD il s0.1, edl s0.2, .int (i : Int)] : List D).getD 2 .undef = .int (i : Int) := rfl;have hin : iter (tbody 3 (S401L0 G [mpD il s0.1, edl s0.2, .int (i : Int)] (il [x, y, z]))) fuel [mpD il s0.1, edl s0.2, .int 0] = some (0, [mpD il (addO (addO (addO s0 (uE x y, i)) (uE y z, i)) (uE z x, i)).1, edl (addO (addO (addO s0 (uE x y, i)) (uE y z, i)) (uE z x, i)).2, .int 3, .bool false]) := by
    refine itf (f := 4) ?_ (by omega)
    refine iter_go (tb rfl (step401 g400 (s := s0) d03 p_i0 w01 tm1 p_i1 hx hy (by omega) (by omega) e4)) ?_
    refine iter_go (tb rfl (step401 g400 (s := addO s0 (uE x y, i)) d13 p_i1 w12 tm2 p_i2 hy hz (by omega) (by omega) e4)) ?_
    refine iter_go (tb rfl (step401 g400 (s := addO (addO s0 (uE x y, i)) (uE y z, i)) d23 p_i2 w23 tm3 p_i0 hz hx (by omega) (by omega) e4)) ?_
    refine iter_end (l := 0) (tb rfl ?_) rfl;unfold S401L0;simp only [ev0, p_add, p_rem3, p_lst, p_agg, Nat.zero_add, d33]
   unfold S401L1;simp only [ev0, j_0, List.length_cons, List.length_nil, Nat.zero_add, Nat.reduceAdd, if_true, h0, hti, hin, hadd]
  ·refine tb rfl ?_
   have h0 : decide ((ts.length : Int) < (ts.length : Int)) = false := by simp
   unfold S401L1;simp only [ev0, p_add, Nat.zero_add, h0];rfl
 have hstart : ([mpD il (byO (occN ts 0)).1, edl (byO (occN ts 0)).2, .int ((0 : Nat) : Int)] : List D) = [.lst [], .lst [], .int 0] := by unfold byO occN mpD edl;rfl
 rw [hstart] at houter
 have hsz : (byT ts).2.length ≤ 1048576 := by
  have h1 := fold_len (occN ts ts.length) ([], []);have h2 := occ_len ts ts.length;have h3 : (byT ts).2.length ≤ (occN ts ts.length).length := by simpa [byT, byO] using h1
  omega
 have c2 : gcall G none 402 [edl (byT ts).2] 1 = some [edl (sortE (byT ts).2)] := by refine gcall_on g402 rfl ?_ rfl;unfold edl;rw [F402_of (edOf_edl _), if_pos hsz, edD_kD]
 simp only [ev0, j_0, p_lst, List.length_cons, List.length_nil, Nat.zero_add, Nat.reduceAdd, if_true, hl, houter, c2]
theorem iter_Pbad {body : List D → Option (Nat × List D)} (s : Nat → List D) (P : Nat → Prop) {n f l : Nat} {ds : List D} (hf : n ≤ f) (h0 : P 0) (hs : ∀ i, i < n → P i → P (i + 1) → body (s i) = some (0, s (i + 1)))
  (hb : ∀ i, i < n → P i → ¬ P (i + 1) → body (s i) = some (l + 1, ds)) (hx : ¬ P n) : iter body f (s 0) = some (l, ds) := by
 have key : ∀ (k i : Nat), i + k = n → P i → iter body (k + (f - n)) (s i) = some (l, ds) := by
  intro k
  induction k with
  | zero =>
   intro i hi hP;have : i = n := by omega
   subst this;exact absurd hP hx
  | succ k ih =>
   intro i hi hP;rw [show k + 1 + (f - n) = (k + (f - n)) + 1 from by omega]
   by_cases hg : P (i + 1)
   ·exact iter_go (hs i (by omega) hP hg) (ih (i + 1) (by omega) hg)
   ·exact iter_end (hb i (by omega) hP hg) rfl
 have := key n 0 (by omega) h0
 rwa [show n + (f - n) = f from by omega] at this
theorem iter_Pgood {body : List D → Option (Nat × List D)} (s : Nat → List D) (P : Nat → Prop) {n f l : Nat} {ds : List D} (hf : n < f) (hmono : ∀ i, P (i + 1) → P i) (hs : ∀ i, i < n → P i → P (i + 1) → body (s i) = some (0, s (i + 1)))
  (he : body (s n) = some (l + 1, ds)) (hx : P n) : iter body f (s 0) = some (l, ds) := by
 have hP : ∀ k i, i + k = n → P i := by
  intro k
  induction k with
  | zero =>
       intro i hi; have : i = n := by omega
       subst this; exact hx
  | succ k ih => intro i hi; exact hmono i (ih (i + 1) (by omega))
 exact iter_to s hf (fun i hi => hs i hi (hP (n - i) i (by omega)) (hP (n - (i + 1)) (i + 1) (by omega))) he
abbrev S2 := List (E2 × Bool) × List (E2 × Int)
def addS (s : S2) (w : E2) : S2 := (pt s.1 w true, pt s.2 (uW w) ((lk s.2 (uW w)).getD 0 + 1))
def foldS (W : List E2) : S2 := W.foldl addS ([], [])
theorem foldS_step (W : List E2) (w : E2) : foldS (W ++ [w]) = addS (foldS W) w := by
 unfold foldS
 rw [List.foldl_append]
 rfl
theorem foldS_inv : ∀ (W2 : List E2) (s : S2) (W1 : List E2), InvS s.1 s.2 W1 → (W1 ++ W2).Nodup → InvS (W2.foldl addS s).1 (W2.foldl addS s).2 (W1 ++ W2)
 | [], s, W1, h, _ => by simpa using h
 | w :: W2, s, W1, h, hn => by
  have hw : w ∉ W1 := by rw [List.nodup_append] at hn;intro hw;exact hn.2.2 w hw w (by simp) rfl
  have h1 := (h.step w).2 hw;have := foldS_inv W2 (addS s w) (W1 ++ [w]) h1 (by simpa using hn)
  simpa using this
theorem foldS_ok {W : List E2} (h : W.Nodup) : InvS (foldS W).1 (foldS W).2 W := by
 have := foldS_inv W ([], []) [] invS_nil (by simpa using h)
 simpa [foldS] using this
attribute [local irreducible] addS

theorem step403 {G : Told} (g400 : G 400 = F400) {W : List E2} (hW : W.Nodup) (hWl : W.length ≤ 1000) {t : D} {k a b k1 k2 : Int} (hk : decide (k < 3) = true) (hx : gev none .idx [t, .int k] = some (.int a)) (hw : IntKind.wrap .i64 (k + 1) = k1) (hm : k1.tmod 3 = k2)
  (hy : gev none .idx [t, .int k2] = some (.int b)) (ha : 0 ≤ a ∧ a < 64) (hb : 0 ≤ b ∧ b < 64) :
  S403L0 G t [mpD D.bool (foldS W).1, mpD D.int (foldS W).2, .int k] = if (a, b) ∈ W then some (4, [.bool false]) else some (0, [mpD D.bool (foldS (W ++ [(a, b)])).1, mpD D.int (foldS (W ++ [(a, b)])).2, .int k1]) := by
 have hin := kIn_uE ha hb
 have hin2 := kIn_ab ha hb
 have hI := foldS_ok hW
 have hst := (hI.step (a, b)).1
 have hcnt := hI.many (uE a b)
 have hcl : ((W.map uW).count (uE a b) : Int) ≤ 1000 := by have := List.count_le_length (a := uE a b) (l := W.map uW);rw [List.length_map] at this;omega
 rw [foldS_step]
 have hu : uW (a, b) = uE a b := rfl
 rw [hu] at hst
 have hadd : addS (foldS W) (a, b) = (pt (foldS W).1 (a, b) true, pt (foldS W).2 (uE a b) ((lk (foldS W).2 (uE a b)).getD 0 + 1)) := by unfold addS; rfl
 rw [hadd]
 generalize (foldS W).1 = s1 at *
 generalize (foldS W).2 = s2 at *
 have hc0 : 0 ≤ (lk s2 (uE a b)).getD 0 ∧ (lk s2 (uE a b)).getD 0 ≤ 1000 := by rw [hcnt]; omega
 have c1 : gcall G none 400 [.int a, .int b] 2 = some [.int (min a b), .int (max a b)] := gcall_on g400 rfl rfl rfl
 have hab : gev none .mkagg [.int a, .int b] = some (kD (a, b)) := kD_mk a b
 have q1 : gev none .mget [mpD D.int s2, kD (uE a b), .int 0] = some (.int ((lk s2 (uE a b)).getD 0)) := by rw [q_get hin, getD_map]
 have q2 := q_ent (f := D.int) (kvs := s2) (z := 0) hin
 obtain ⟨j, j1, j2, u, j3, j4⟩ := ix_pt (uE a b) ((lk s2 (uE a b)).getD 0) ((lk s2 (uE a b)).getD 0 + 1) s2
 have q3 : gev none .mget [mpD D.int (pt s2 (uE a b) ((lk s2 (uE a b)).getD 0)), kD (uE a b), .int 0] = some (.int ((lk s2 (uE a b)).getD 0)) := by rw [q_get hin, getD_map, lk_pt, if_pos rfl]; rfl
 have q4 := q_idx (f := D.int) hin j1
 have q6 := q_seti (f := D.int) (v := (lk s2 (uE a b)).getD 0 + 1) j3
 rw [j4] at q6
 have q7 : gev none .mget [mpD D.int (pt s2 (uE a b) ((lk s2 (uE a b)).getD 0 + 1)), kD (uE a b), .int 0] = some (.int ((lk s2 (uE a b)).getD 0 + 1)) := by rw [q_get hin, getD_map, lk_pt, if_pos rfl]; rfl
 have q8 : gev none .mget [mpD D.bool s1, kD (a, b), .bool false] = some (.bool ((lk s1 (a, b)).getD false)) := by rw [q_get hin2, getD_map]
 have q9 := q_set (f := D.bool) (kvs := s1) (v := true) hin2
 have hwr : IntKind.wrap .i64 ((lk s2 (uE a b)).getD 0 + 1) = (lk s2 (uE a b)).getD 0 + 1 := wrap_id (by omega) (by omega)
 unfold S403L0
 generalize (lk s2 (uE a b)).getD 0 = cnt at *
 generalize (lk s1 (a, b)).getD false = g at *
 cases g with
 | true =>
  rw [if_pos (by simpa using hst.symm)]
  simp only [ev0, p_add, p_rem3, kD_uE, hk, hx, hw, hm, hy, c1, q1, hwr, q2, q3, q4, q6, hab, q8]
 | false =>
  rw [Bool.false_or] at hst
  cases hd : decide (cnt + 1 > 2) with
  | true =>
   rw [hd] at hst;rw [if_pos (by simpa using hst.symm)]
   simp only [ev0, p_add, p_rem3, kD_uE, hk, hx, hw, hm, hy, c1, q1, hwr, q2, q3, q4, q6, hab, q8, q7, hd, q9]
  | false =>
   rw [hd] at hst;rw [if_neg (by simpa using hst.symm)]
   simp only [ev0, p_add, p_rem3, kD_uE, hk, hx, hw, hm, hy, c1, q1, hwr, q2, q3, q4, q6, hab, q8, q7, hd, q9]
theorem way_len (ts : List (List Int)) : ∀ i, (wayN ts i).length = 3 * i
 | 0 => rfl
 | i + 1 => by simp only [wayN, List.length_append, way_len ts i];simp [wayT];omega
theorem nodup_left {a b : List E2} (h : (a ++ b).Nodup) : a.Nodup := (List.nodup_append.1 h).1
theorem nodup_snoc {W : List E2} {w : E2} (h : W.Nodup) : (W ++ [w]).Nodup ↔ w ∉ W := by
 rw [List.nodup_append]
 constructor
 ·intro q hw; exact q.2.2 w hw w (by simp) rfl
 ·intro hw; exact ⟨h, by simp, fun a ha b hb => by simp only [List.mem_singleton] at hb; subst hb; rintro rfl; exact hw ha⟩
theorem inner403 {G : Told} (g400 : G 400 = F400) {W : List E2} (hW : W.Nodup) (hWl : W.length ≤ 900) {x y z : Int} (hx : 0 ≤ x ∧ x < 64) (hy : 0 ≤ y ∧ y < 64) (hz : 0 ≤ z ∧ z < 64) :
  ((W ++ wayT [x, y, z] 3).Nodup → iter (tbody 3 (S403L0 G (il [x, y, z]))) 4 [mpD D.bool (foldS W).1, mpD D.int (foldS W).2, .int 0] = some (0, [mpD D.bool (foldS (W ++ wayT [x, y, z] 3)).1, mpD D.int (foldS (W ++ wayT [x, y, z] 3)).2, .int 3, .bool false])) ∧
  (¬ (W ++ wayT [x, y, z] 3).Nodup → iter (tbody 3 (S403L0 G (il [x, y, z]))) 4 [mpD D.bool (foldS W).1, mpD D.int (foldS W).2, .int 0] = some (3, [.bool false])) := by
 have hst : ∀ k, k < 3 → (W ++ wayT [x, y, z] k).Nodup → tbody 3 (S403L0 G (il [x, y, z])) [mpD D.bool (foldS (W ++ wayT [x, y, z] k)).1, mpD D.int (foldS (W ++ wayT [x, y, z] k)).2, .int (k : Int)] =
   if wy [x, y, z] k ∈ W ++ wayT [x, y, z] k then some (4, [.bool false]) else some (0, [mpD D.bool (foldS (W ++ wayT [x, y, z] (k + 1))).1, mpD D.int (foldS (W ++ wayT [x, y, z] (k + 1))).2, .int ((k + 1 : Nat) : Int)]) := by
  intro k hk hn;have hl : (W ++ wayT [x, y, z] k).length ≤ 1000 := by
   have : (wayT [x, y, z] k).length = k := by
    clear hn
    induction k with
    | zero => rfl
    | succ k ih => simp [wayT, ih (by omega)]
   rw [List.length_append];omega
  have e : W ++ wayT [x, y, z] (k + 1) = (W ++ wayT [x, y, z] k) ++ [wy [x, y, z] k] := by simp [wayT]
  rw [e]
  match k, hk with
  | 0, _ => exact tb rfl (step403 g400 hn hl d03 p_i0 w01 tm1 p_i1 hx hy)
  | 1, _ => exact tb rfl (step403 g400 hn hl d13 p_i1 w12 tm2 p_i2 hy hz)
  | 2, _ => exact tb rfl (step403 g400 hn hl d23 p_i2 w23 tm3 p_i0 hz hx)
  | k + 3, h => omega
 have hP0 : (W ++ wayT [x, y, z] 0).Nodup := by simpa [wayT] using hW
 have hmono : ∀ i, (W ++ wayT [x, y, z] (i + 1)).Nodup → (W ++ wayT [x, y, z] i).Nodup := fun i h => by
  have e : W ++ wayT [x, y, z] (i + 1) = (W ++ wayT [x, y, z] i) ++ [wy [x, y, z] i] := by simp [wayT]
  rw [e] at h;exact nodup_left h
 have hgo : ∀ i, i < 3 → (W ++ wayT [x, y, z] i).Nodup → (W ++ wayT [x, y, z] (i + 1)).Nodup → tbody 3 (S403L0 G (il [x, y, z])) [mpD D.bool (foldS (W ++ wayT [x, y, z] i)).1, mpD D.int (foldS (W ++ wayT [x, y, z] i)).2, .int (i : Int)] =
   some (0, [mpD D.bool (foldS (W ++ wayT [x, y, z] (i + 1))).1, mpD D.int (foldS (W ++ wayT [x, y, z] (i + 1))).2, .int ((i + 1 : Nat) : Int)]) := by
  intro i hi h1 h2;have e : W ++ wayT [x, y, z] (i + 1) = (W ++ wayT [x, y, z] i) ++ [wy [x, y, z] i] := by simp [wayT]
  rw [hst i hi h1, if_neg ((nodup_snoc h1).1 (by rw [← e]; exact h2))]
 have hend : tbody 3 (S403L0 G (il [x, y, z])) [mpD D.bool (foldS (W ++ wayT [x, y, z] 3)).1, mpD D.int (foldS (W ++ wayT [x, y, z] 3)).2, .int ((3 : Nat) : Int)] = some (1, [mpD D.bool (foldS (W ++ wayT [x, y, z] 3)).1, mpD D.int (foldS (W ++ wayT [x, y, z] 3)).2, .int 3, .bool false]) := by
  refine tb rfl ?_;have d : decide ((((3 : Nat) : Int)) < 3) = false := by decide
  unfold S403L0;simp only [ev0, p_add, p_rem3, p_agg, d];rfl
 have e0 : ([mpD D.bool (foldS W).1, mpD D.int (foldS W).2, .int 0] : List D) = [mpD D.bool (foldS (W ++ wayT [x, y, z] 0)).1, mpD D.int (foldS (W ++ wayT [x, y, z] 0)).2, .int ((0 : Nat) : Int)] := by simp [wayT]
 rw [e0]
 refine ⟨fun h => ?_, fun h => ?_⟩
 ·exact iter_Pgood (body := tbody 3 (S403L0 G (il [x, y, z]))) (fun k => [mpD D.bool (foldS (W ++ wayT [x, y, z] k)).1, mpD D.int (foldS (W ++ wayT [x, y, z] k)).2, .int (k : Int)]) (fun k => (W ++ wayT [x, y, z] k).Nodup) (n := 3) (l := 0) (by omega) hmono hgo hend h
 ·refine iter_Pbad (body := tbody 3 (S403L0 G (il [x, y, z]))) (fun k => [mpD D.bool (foldS (W ++ wayT [x, y, z] k)).1, mpD D.int (foldS (W ++ wayT [x, y, z] k)).2, .int (k : Int)]) (fun k => (W ++ wayT [x, y, z] k).Nodup) (n := 3) (l := 3) (by omega) hP0 hgo (fun i hi h1 h2 => ?_) h
  have e : W ++ wayT [x, y, z] (i + 1) = (W ++ wayT [x, y, z] i) ++ [wy [x, y, z] i] := by simp [wayT]
  rw [hst i hi h1, if_pos];rw [e, nodup_snoc h1] at h2;exact Classical.not_not.1 h2
theorem run403 {G : Told} (g150 : G 150 = F150) (g400 : G 400 = F400) : Runs G F403 T403 := by
 intro ds rs h
 unfold F403 at h
 split at h
 case h_2 => cases h
 rename_i a b
 obtain ⟨vs, ha, h⟩ := Option.bind_eq_some_iff.1 h
 obtain ⟨ts, hb, h⟩ := Option.bind_eq_some_iff.1 h
 rw [dV_inv ha, dT_inv hb]
 split at h
 case isFalse => cases h
 rename_i hc
 simp only [Option.some.injEq] at h
 subst h
 clear ha
 clear hb
 obtain ⟨fuel, hfu⟩ : ∃ fuel, fuel = 1000 := ⟨_, rfl⟩
 refine ⟨fuel, ?_⟩
 rw [eq403]
 unfold S403
 have hl := len_tl (l := ts)
 have c0 : gcall G none 150 [vl vs, tl ts] 1 = some [.bool (validP vs.length ts)] := gcall_on g150 rfl (F150_m hc) rfl
 cases hv : validP vs.length ts with
 | false =>
  rw [hv] at c0;simp only [ev0, c0, Bool.false_and]
 | true =>
 rw [hv] at c0
 have hT := triOk_of (valid64 hv)
 obtain ⟨_, h128⟩ := valid_len hv
 have hin : ∀ i, i < ts.length → (wayN ts i).Nodup → ((wayN ts (i + 1)).Nodup → iter (tbody 3 (S403L0 G (il (ts.getD i [])))) fuel [mpD D.bool (foldS (wayN ts i)).1, mpD D.int (foldS (wayN ts i)).2, .int 0] = some (0, [mpD D.bool (foldS (wayN ts (i + 1))).1, mpD D.int (foldS (wayN ts (i + 1))).2, .int 3, .bool false])) ∧
   (¬ (wayN ts (i + 1)).Nodup → iter (tbody 3 (S403L0 G (il (ts.getD i [])))) fuel [mpD D.bool (foldS (wayN ts i)).1, mpD D.int (foldS (wayN ts i)).2, .int 0] = some (3, [.bool false])) := by
  intro i hi hn;obtain ⟨x, y, z, ht, _, _, _, hx, hy, hz⟩ := hT.at hi;have hwl := way_len ts i;have := inner403 (G := G) g400 hn (by omega) hx hy hz
  have e : wayN ts (i + 1) = wayN ts i ++ wayT [x, y, z] 3 := by rw [wayN, ht]
  rw [ht, e];exact ⟨fun h => itf (this.1 h) (by omega), fun h => itf (this.2 h) (by omega)⟩
 have hgo : ∀ i, i < ts.length → (wayN ts i).Nodup → (wayN ts (i + 1)).Nodup → tbody 3 (S403L1 G fuel (tl ts) (.int (ts.length : Int))) [mpD D.bool (foldS (wayN ts i)).1, mpD D.int (foldS (wayN ts i)).2, .int (i : Int)] =
   some (0, [mpD D.bool (foldS (wayN ts (i + 1))).1, mpD D.int (foldS (wayN ts (i + 1))).2, .int ((i + 1 : Nat) : Int)]) := by
  intro i hi h1 h2;refine tb rfl ?_;have h0 : decide ((i : Int) < (ts.length : Int)) = true := by simpa using hi
  have hti := p_ti hi;have hadd := add1n (i := i) (by omega)
  have hit := (hin i hi h1).1 h2;unfold S403L1;simp only [ev0, j_0, List.length_cons, List.length_nil, Nat.zero_add, Nat.reduceAdd, if_true, h0, hti, hit, hadd]
 have hbad : ∀ i, i < ts.length → (wayN ts i).Nodup → ¬ (wayN ts (i + 1)).Nodup → tbody 3 (S403L1 G fuel (tl ts) (.int (ts.length : Int))) [mpD D.bool (foldS (wayN ts i)).1, mpD D.int (foldS (wayN ts i)).2, .int (i : Int)] = some (2, [.bool false]) := by
  intro i hi h1 h2;refine tb rfl ?_;have h0 : decide ((i : Int) < (ts.length : Int)) = true := by simpa using hi
  have hti := p_ti hi;have hit := (hin i hi h1).2 h2;unfold S403L1;simp only [ev0, j_3, p_add, h0, hti, hit]
 have hend : tbody 3 (S403L1 G fuel (tl ts) (.int (ts.length : Int))) [mpD D.bool (foldS (wayN ts ts.length)).1, mpD D.int (foldS (wayN ts ts.length)).2, .int ((ts.length : Nat) : Int)] = some (1, [mpD D.bool (foldS (wayN ts ts.length)).1, mpD D.int (foldS (wayN ts ts.length)).2, .int (ts.length : Int), .bool false]) := by
  refine tb rfl ?_;have h0 : decide ((ts.length : Int) < (ts.length : Int)) = false := by simp
  unfold S403L1;simp only [ev0, p_add, h0]
 have e0 : ([.lst [], .lst [], .int 0] : List D) = [mpD D.bool (foldS (wayN ts 0)).1, mpD D.int (foldS (wayN ts 0)).2, .int ((0 : Nat) : Int)] := by unfold wayN foldS mpD;rfl
 unfold sheetP
 by_cases hn : (wayN ts ts.length).Nodup
 ·have hit := iter_Pgood (body := tbody 3 (S403L1 G fuel (tl ts) (.int (ts.length : Int)))) (fun i => [mpD D.bool (foldS (wayN ts i)).1, mpD D.int (foldS (wayN ts i)).2, .int (i : Int)]) (fun i => (wayN ts i).Nodup) (n := ts.length) (f := fuel) (l := 0) (by omega)
   (fun i h => by rw [wayN] at h; exact nodup_left h) hgo hend hn
  rw [← e0] at hit;rw [decide_eq_true hn];simp only [ev0, j_0, List.length_cons, List.length_nil, Nat.zero_add, Nat.reduceAdd, if_true, c0, hl, hit, Bool.true_and]
 ·have hit := iter_Pbad (body := tbody 3 (S403L1 G fuel (tl ts) (.int (ts.length : Int)))) (fun i => [mpD D.bool (foldS (wayN ts i)).1, mpD D.int (foldS (wayN ts i)).2, .int (i : Int)]) (fun i => (wayN ts i).Nodup) (n := ts.length) (f := fuel) (l := 1) (by omega)
   List.nodup_nil hgo hbad hn
  rw [← e0] at hit;rw [decide_eq_false hn];simp only [ev0, j_1, c0, hl, hit, Bool.true_and]
end Vs
