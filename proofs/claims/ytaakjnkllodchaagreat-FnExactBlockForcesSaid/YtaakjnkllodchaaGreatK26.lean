/-
  The triangles of each edge (a map), and the edges in order; which meshes are sheets, by maps.
-/
import Derived.Test.YtaakjnkllodchaaGreatK25
set_option maxHeartbeats 4000000
namespace Vs
open Go Go.Sort
section
variable {β : Type} {f : β → D} {kvs : List (E2 × β)} {e : E2}
theorem q_get {z : D} (h : kIn e = true) : gev none .mget [mpD f kvs, kD e, z] = some (((lk kvs e).map f).getD z) := mget_mp h
theorem q_ent {z : β} (h : kIn e = true) : gev none .ment [mpD f kvs, kD e, f z] = some (mpD f (pt kvs e ((lk kvs e).getD z))) := ment_mp h
theorem q_idx {j : Nat} (h : kIn e = true) (hj : ix kvs e = some j) : gev none .midx [mpD f kvs, kD e] = some (.int (j : Int)) := midx_mp h hj
theorem q_seti {j : Nat} {u v : β} (hj : kvs[j]? = some (e, u)) : gev none .mseti [mpD f kvs, .int (j : Int), f v] = some (mpD f (kvs.set j (e, v))) := mseti_mp hj
end
theorem getD_map {β : Type} (f : β → D) (o : Option β) (z : β) : (o.map f).getD (f z) = f (o.getD z) := by cases o <;> rfl
def edl (es : List E2) : D := .lst (es.map kD)
theorem app_edl {es : List E2} {e : E2} (h : es.length < 1048576) : gev none .app [edl es, .lst [kD e]] = some (edl (es ++ [e])) := by
 simp only [gev, gok, if_true, Prim.ev, edl]
 rw [if_pos (by simp; omega)]
 simp
theorem app_il1 {l : List Int} {v : Int} (h : l.length < 1048576) : gev none .app [il l, il [v]] = some (il (l ++ [v])) := app_il (by simp; omega)
theorem kD_mk (a b : Int) : gev none .mkagg [.int a, .int b] = some (kD (a, b)) := (rfl)
theorem kD_uE (a b : Int) : gev none .mkagg [.int (min a b), .int (max a b)] = some (kD (uE a b)) := (rfl)
theorem lst_nil : D.lst [] = il [] := (rfl)
theorem p_lk {e : E2} : gev none .mklst [kD e] = some (.lst [kD e]) := (rfl)
theorem edD_kD : edD = kD := rfl
theorem itf {body : List D → Option (Nat × List D)} {f g : Nat} {ds : List D} {r} (h : iter body f ds = some r) (hg : f ≤ g) : iter body g ds = some r := iter_mono (fun _ _ h => h) h hg
theorem kIn_uE {a b : Int} (h1 : 0 ≤ a ∧ a < 64) (h2 : 0 ≤ b ∧ b < 64) : kIn (uE a b) = true := by
 unfold kIn uE
 simp only [Bool.and_eq_true, decide_eq_true_eq]
 omega
theorem edOf_edl (es : List E2) : edOf (es.map kD) = some es := edOf_edD es
theorem valid64 {n : Nat} {ts : List (List Int)} (h : validP n ts = true) : validP 64 ts = true := by
 unfold validP at h ⊢
 simp only [Bool.and_eq_true, decide_eq_true_eq] at h ⊢
 refine ⟨⟨by omega, h.1.2⟩, ?_⟩
 rw [List.all_eq_true] at *
 intro t ht
 have := h.2 t ht
 have hn := h.1.1
 unfold triP at this ⊢
 split at this
 ·simp only [Bool.and_eq_true, List.all_cons, List.all_nil, Bool.and_true, inr, decide_eq_true_eq] at this ⊢
  obtain ⟨h1, ⟨h2, h3⟩, ⟨h4, h5⟩, h6, h7⟩ := this;exact ⟨h1, ⟨h2, by omega⟩, ⟨h4, by omega⟩, h6, by omega⟩
 ·cases this
theorem valid_len {n : Nat} {ts : List (List Int)} (h : validP n ts = true) : n ≤ 64 ∧ ts.length ≤ 128 := by
 unfold validP at h
 simp only [Bool.and_eq_true, decide_eq_true_eq] at h
 exact h.1
noncomputable def F401 : List D → Option (List D)
 | [_, b] => (dT b).bind fun ts => if validP 64 ts = true then some [mpD il (byT ts).1, edl (sortE (byT ts).2)] else none
 | _ => none
theorem F401_m {ts : List (List Int)} {a : D} (h : validP 64 ts = true) : F401 [a, tl ts] = some [mpD il (byT ts).1, edl (sortE (byT ts).2)] := by
 simp only [F401, dT_tl, Option.bind_some]
 rw [if_pos h]
def T401 : T :=
(oo .mklst [] <|
oo .len [1] <|
.join 4
 (.loop [kL, (.v 2), (.c (.int 0))]
  (oo (.icm .lss) [6, 3] <|
  .ite 7
   (oo .idx [1, 6] <|
   .join 4
    (.loop [4, 5, kI 0]
     (oo (.icm .lss) [11, kI 3] <|
     .ite 12
      (oo .idx [8, 11] <|
      oo (.iar .add .i64) [11, kI 1] <|
      oo (.idv .rem .i64) [14, kI 3] <|
      oo .idx [8, 15] <|
      cc 400 [13, 16] 2 <|
      oo .mkagg [17, 18] <|
      oo .mget [(.v 9), (.v 19), kL] <|
      oo .len [20] <|
      oo (.icm .eql) [21, kI 0] <|
      .join 1
       (.ite 22
        (oo .mkagg [17, 18] <|
        oo .mklst [23] <|
        oo .app [10, 24] <|
        .out 0 [25])
        (.out 0 [10]))
      (oo .mklst [6] <|
      oo .mkagg [17, 18] <|
      oo .ment [(.v 9), (.v 25), kL] <|
      oo .mget [(.v 26), (.v 25), kL] <|
      oo .midx [26, 25] <|
      oo .app [27, 24] <|
      oo .mseti [26, 28, 29] <|
      oo (.iar .add .i64) [11, kI 1] <|
      .out 0 [30, 23, 31]))
      (.out 1 [9, 10, 11, 12])))
   (oo (.iar .add .i64) [6, kI 1] <|
   .out 0 [9, 10, 13]))
   (.out 1 [4, 5, 6, 7])))
(cc 402 [5] 1 <|
.out 0 [4, 8]))
def S401L0 (G : Told) (e4 : List D) (x8 : D) : List D → Option (Nat × List D) := fun e9 =>
      (gev none (.icm .lss) [e9.getD 2 .undef, .int 3]).bind fun x12 =>
      tif x12 (
       (gev none .idx [x8, e9.getD 2 .undef]).bind fun x13 =>
       (gev none (.iar .add .i64) [e9.getD 2 .undef, .int 1]).bind fun x14 =>
       (gev none (.idv .rem .i64) [x14, .int 3]).bind fun x15 =>
       (gev none .idx [x8, x15]).bind fun x16 =>
       (gcall G none 400 [x13, x16] 2).bind fun e17 =>
       (gev none .mkagg [e17.getD 0 .undef, e17.getD 1 .undef]).bind fun x19 =>
       (gev none .mget [(e9.getD 0 .undef), x19, (.lst [])]).bind fun x20 =>
       (gev none .len [x20]).bind fun x21 =>
       (gev none (.icm .eql) [x21, .int 0]).bind fun x22 =>
       tjoin 1 (
        tif x22 (
         (gev none .mkagg [e17.getD 0 .undef, e17.getD 1 .undef]).bind fun x23 =>
         (gev none .mklst [x23]).bind fun x24 =>
         (gev none .app [e9.getD 1 .undef, x24]).bind fun x25 =>
         some (0, [x25])) (
         some (0, [e9.getD 1 .undef]))) fun e23 =>
       (gev none .mklst [e4.getD 2 .undef]).bind fun x24 =>
       (gev none .mkagg [e17.getD 0 .undef, e17.getD 1 .undef]).bind fun x25 =>
       (gev none .ment [(e9.getD 0 .undef), x25, (.lst [])]).bind fun x26 =>
       (gev none .mget [x26, x25, (.lst [])]).bind fun x27 =>
       (gev none .midx [x26, x25]).bind fun x28 =>
       (gev none .app [x27, x24]).bind fun x29 =>
       (gev none .mseti [x26, x28, x29]).bind fun x30 =>
       (gev none (.iar .add .i64) [e9.getD 2 .undef, .int 1]).bind fun x31 =>
       some (0, [x30, e23.getD 0 .undef, x31])) (
       some (1, [e9.getD 0 .undef, e9.getD 1 .undef, e9.getD 2 .undef, x12]))
def S401L1 (G : Told) (fuel : Nat) (x1 : D) (x3 : D) : List D → Option (Nat × List D) := fun e4 =>
   (gev none (.icm .lss) [e4.getD 2 .undef, x3]).bind fun x7 =>
   tif x7 (
    (gev none .idx [x1, e4.getD 2 .undef]).bind fun x8 =>
    tjoin 4 (
     iter (tbody 3 (S401L0 G e4 x8)) fuel [e4.getD 0 .undef, e4.getD 1 .undef, .int 0]) fun e9 =>
    (gev none (.iar .add .i64) [e4.getD 2 .undef, .int 1]).bind fun x13 =>
    some (0, [e9.getD 0 .undef, e9.getD 1 .undef, x13])) (
    some (1, [e4.getD 0 .undef, e4.getD 1 .undef, e4.getD 2 .undef, x7]))
def S401 (G : Told) (fuel : Nat) (_x0 x1 : D) : Option (Nat × List D) :=
 (gev none .mklst []).bind fun x2 =>
 (gev none .len [x1]).bind fun x3 =>
 tjoin 4 (
  iter (tbody 3 (S401L1 G fuel x1 x3)) fuel [(.lst []), x2, (.int 0)]) fun e4 =>
 (gcall G none 402 [e4.getD 1 .undef] 1).bind fun e8 =>
 some (0, [e4.getD 0 .undef, e8.getD 0 .undef])
theorem eq401 {G fuel} (x0 x1) : run G fuel T401 [x0, x1] = S401 G fuel x0 x1 := by rw [run_eq]; kernel_rfl
theorem fold_len : ∀ (os : List (E2 × Int)) (s : St), (os.foldl addO s).2.length ≤ s.2.length + os.length
 | [], s => by simp
 | o :: os, s => by
  have h := fold_len os (addO s o);have h2 : (addO s o).2.length ≤ s.2.length + 1 := by
   simp only [addO];split
   ·simp
   ·omega
  simp only [List.foldl_cons, List.length_cons];omega
theorem occ_len (ts : List (List Int)) : ∀ i, (occN ts i).length = 3 * i
 | 0 => rfl
 | i + 1 => by simp only [occN, List.length_append, occ_len ts i];simp [occT, wayT];omega
theorem look_len {s : St} {os : List (E2 × Int)} (h : InvO s os) (e : E2) : ((lk s.1 e).getD []).length ≤ os.length := by
 rw [h.look, List.length_map]
 exact List.length_filter_le _ _
attribute [local irreducible] IntKind.wrap il tl vl mpD kD edl

theorem step401 {G : Told} (g400 : G 400 = F400) {s : St} {t : D} {i k a b k1 k2 : Int} (hk : decide (k < 3) = true) (hx : gev none .idx [t, .int k] = some (.int a)) (hw : IntKind.wrap .i64 (k + 1) = k1) (hm : k1.tmod 3 = k2)
  (hy : gev none .idx [t, .int k2] = some (.int b)) (ha : 0 ≤ a ∧ a < 64) (hb : 0 ≤ b ∧ b < 64) (h1 : s.2.length < 1048576) (h2 : ((lk s.1 (uE a b)).getD []).length < 1048576) {e4 : List D} (he : e4.getD 2 .undef = .int i) :
  S401L0 G e4 t [mpD il s.1, edl s.2, .int k] = some (0, [mpD il (addO s (uE a b, i)).1, edl (addO s (uE a b, i)).2, .int k1]) := by
 have hin := kIn_uE ha hb
 obtain ⟨s1, s2⟩ := s
 simp only at h1 h2
 have c1 : gcall G none 400 [.int a, .int b] 2 = some [.int (min a b), .int (max a b)] := gcall_on g400 rfl rfl rfl
 have q1 : gev none .mget [mpD il s1, kD (uE a b), il []] = some (il ((lk s1 (uE a b)).getD [])) := by rw [q_get hin, getD_map]
 have q2 := q_ent (f := il) (kvs := s1) (z := []) hin
 obtain ⟨j, j1, j2, u, j3, j4⟩ := ix_pt (uE a b) ((lk s1 (uE a b)).getD []) ((lk s1 (uE a b)).getD [] ++ [i]) s1
 have q3 : gev none .mget [mpD il (pt s1 (uE a b) ((lk s1 (uE a b)).getD [])), kD (uE a b), il []] = some (il ((lk s1 (uE a b)).getD [])) := by rw [q_get hin, getD_map, lk_pt, if_pos rfl]; rfl
 have q4 := q_idx (f := il) hin j1
 have q5 := app_il1 (v := i) h2
 have q6 := q_seti (f := il) (v := (lk s1 (uE a b)).getD [] ++ [i]) j3
 rw [j4] at q6
 have q7 := app_edl (e := uE a b) h1
 have hl := len_il (l := (lk s1 (uE a b)).getD [])
 unfold S401L0
 simp only [addO]
 generalize (lk s1 (uE a b)).getD [] = L at *
 by_cases hL : L.length = 0
 ·have d : (((L.length : Nat) : Int) == 0) = true := by simp [hL]
  rw [if_pos hL];simp only [ev0, j_0, p_add, p_rem3, List.length_cons, List.length_nil, Nat.zero_add, if_true, kD_uE, p_il1, p_lk, lst_nil, hk, hx, hw, hm, hy, c1, q1, hl, d, q7, he, q2, q3, q4, q5, q6]
 ·have d : (((L.length : Nat) : Int) == 0) = false := by rw [beq_eq_false_iff_ne]; omega
  rw [if_neg hL];simp only [ev0, j_0, p_add, p_rem3, List.length_cons, List.length_nil, Nat.zero_add, if_true, kD_uE, p_il1, p_lk, lst_nil, hk, hx, hw, hm, hy, c1, q1, hl, d, he, q2, q3, q4, q5, q6]
theorem run401 {G : Told} (g400 : G 400 = F400) (g402 : G 402 = F402) : Runs G F401 T401 := by
 intro ds rs h
 unfold F401 at h
 split at h
 case h_2 => cases h
 rename_i a b
 obtain ⟨ts, hb, h⟩ := Option.bind_eq_some_iff.1 h
 rw [dT_inv hb]
 split at h
 case isFalse => cases h
 rename_i hc
 simp only [Option.some.injEq] at h
 subst h
 clear hb
 have hT := triOk_of hc
 obtain ⟨_, h128⟩ := valid_len hc
 obtain ⟨fuel, hfu⟩ : ∃ fuel, fuel = 1000 := ⟨_, rfl⟩
 refine ⟨fuel, ?_⟩
 rw [eq401]
 unfold S401
 have hl := len_tl (l := ts)
 have houter : iter (tbody 3 (S401L1 G fuel (tl ts) (.int (ts.length : Int)))) fuel [mpD il (byO (occN ts 0)).1, edl (byO (occN ts 0)).2, .int ((0 : Nat) : Int)] = some (0, [mpD il (byT ts).1, edl (byT ts).2, .int (ts.length : Int), .bool false]) := by
  refine iter_to (body := tbody 3 (S401L1 G fuel (tl ts) (.int (ts.length : Int)))) (n := ts.length) (f := fuel) (l := 0) (fun i => [mpD il (byO (occN ts i)).1, edl (byO (occN ts i)).2, .int (i : Int)]) (by omega) (fun i hi => ?_) ?_
  ·refine tb rfl ?_
   obtain ⟨x, y, z, ht, _, _, _, hx, hy, hz⟩ := hT.at hi;have h0 : decide ((i : Int) < (ts.length : Int)) = true := by simpa using hi
   have hti := p_ti hi;rw [ht] at hti;have hadd := add1n (i := i) (by omega)
   have hinv := byO_inv (occN ts i);have hol := occ_len ts i;have hsl := fold_len (occN ts i) ([], []);simp only [List.length_nil, Nat.zero_add] at hsl;have hsl : (byO (occN ts i)).2.length ≤ 3 * i := by rw [← hol]; exact hsl
   have hnext : byO (occN ts (i + 1)) = addO (addO (addO (byO (occN ts i)) (uE x y, i)) (uE y z, i)) (uE z x, i) := by unfold byO;rw [occN, ht, List.foldl_append];rfl
   have inv1 := hinv.step (uE x y, (i : Int));have inv2 := inv1.step (uE y z, (i : Int));have al : ∀ (s : St) (o : E2 × Int), (addO s o).2.length ≤ s.2.length + 1 := fun s o => fold_len [o] s
   have l1 := al (byO (occN ts i)) (uE x y, (i : Int));have l2 := al (addO (byO (occN ts i)) (uE x y, (i : Int))) (uE y z, (i : Int));have k0 := look_len hinv (uE x y);have k1 := look_len inv1 (uE y z);have k2 := look_len inv2 (uE z x);simp only [List.length_append, List.length_cons, List.length_nil] at k1 k2;rw [hnext];generalize byO (occN ts i) = s0 at *;have e4 : ([mpD il s0.1, edl s0.2, .int (i : Int)] : List D).getD 2 .undef = .int (i : Int) := rfl;have hin : iter (tbody 3 (S401L0 G [mpD il s0.1, edl s0.2, .int (i : Int)] (il [x, y, z]))) fuel [mpD il s0.1, edl s0.2, .int 0] = some (0, [mpD il (addO (addO (addO s0 (uE x y, i)) (uE y z, i)) (uE z x, i)).1, edl (addO (addO (addO s0 (uE x y, i)) (uE y z, i)) (uE z x, i)).2, .int 3, .bool false]) := by
    refine itf (f := 4) ?_ (by omega)
    refine iter_go (tb rfl (step401 g400 (s := s0) d03 p_i0 w01 tm1 p_i1 hx hy (by omega) (by omega) e4)) ?_
    refine iter_go (tb rfl (step401 g400 (s := addO s0 (uE x y, i)) d13 p_i1 w12 tm2 p_i2 hy hz (by omega) (by omega) e4)) ?_
    refine iter_go (tb rfl (step401 g400 (s := addO (addO s0 (uE x y, i)) (uE y z, i)) d23 p_i2 w23 tm3 p_i0 hz hx (by omega) (by omega) e4)) ?_
    refine iter_end (l := 0) (tb rfl ?_) rfl;unfold S401L0;simp only [ev0, p_add, p_rem3, p_lst, p_agg, Nat.zero_add, d33]
   unfold S401L1;simp only [ev0, j_0, List.length_cons, List.length_nil, Nat.zero_add, Nat.reduceAdd, if_true, h0, hti, hin, hadd]
  ·refine tb rfl ?_
   have h0 : decide ((ts.length : Int) < (ts.length : Int)) = false := by simp
   unfold S401L1;simp only [ev0, p_add, Nat.zero_add, h0];rfl
 have hstart : ([mpD il (byO (occN ts 0)).1, edl (byO (occN ts 0)).2, .int ((0 : Nat) : Int)] : List D) = [.lst [], .lst [], .int 0] := by unfold byO occN mpD edl;rfl
 rw [hstart] at houter
 have hsz : (byT ts).2.length ≤ 1048576 := by
  have h1 := fold_len (occN ts ts.length) ([], []);have h2 := occ_len ts ts.length;have h3 : (byT ts).2.length ≤ (occN ts ts.length).length := by simpa [byT, byO] using h1
  omega
 have c2 : gcall G none 402 [edl (byT ts).2] 1 = some [edl (sortE (byT ts).2)] := by refine gcall_on g402 rfl ?_ rfl;unfold edl;rw [F402_of (edOf_edl _), if_pos hsz, edD_kD]
 simp only [ev0, j_0, p_lst, List.length_cons, List.length_nil, Nat.zero_add, Nat.reduceAdd, if_true, hl, houter, c2]

end Vs
