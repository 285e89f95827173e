/-
  Twins: two triangles of the same places, by a map of sorted triples and by looking at all pairs.
-/
import Derived.Test.YtaakjnkllodchaaGreatKq4
import Derived.Test.YtaakjnkllodchaaGreatA
set_option maxHeartbeats 4000000
namespace Vs
open Go Go.Sort
noncomputable def F404 : List D → Option (List D)
 | [_, b] => (dT b).bind fun ts => if validP 64 ts = true then some [.bool (twinB ts)] else none
 | _ => none
theorem F404_m {ts : List (List Int)} {a : D} (h : validP 64 ts = true) : F404 [a, tl ts] = some [.bool (twinB ts)] := by
 simp only [F404, dT_tl, Option.bind_some]
 rw [if_pos h]
def T404 : T :=
(oo .len [1] <|
.join 3
 (.loop [kL, (.c (.int 0))]
  (oo (.icm .lss) [4, 2] <|
  .ite 5
   (oo .idx [1, 4] <|
   oo .mklst [] <|
   oo .app [7, 6] <|
   cc 405 [8] 1 <|
   oo .idx [9, kI 0] <|
   oo .idx [9, kI 0] <|
   oo .idx [9, kI 1] <|
   oo .idx [9, kI 1] <|
   oo .idx [9, kI 2] <|
   oo .idx [9, kI 2] <|
   oo .mkagg [11, 13, 15] <|
   oo .mget [3, 16, kN] <|
   .ite 17
    (.out 2 [kT])
    (oo .mkagg [11, 13, 15] <|
    oo .mset [3, 18, kT] <|
    oo (.iar .add .i64) [4, kI 1] <|
    .out 0 [19, 20]))
   (.out 1 [3, 4, 5])))
(.out 0 [kN]))
def S404L0 (G : Told) (x1 : D) (x2 : D) : List D → Option (Nat × List D) := fun e3 =>
   (gev none (.icm .lss) [e3.getD 1 .undef, x2]).bind fun x5 =>
   tif x5 (
    (gev none .idx [x1, e3.getD 1 .undef]).bind fun x6 =>
    (gev none .mklst []).bind fun x7 =>
    (gev none .app [x7, x6]).bind fun x8 =>
    (gcall G none 405 [x8] 1).bind fun e9 =>
    (gev none .idx [e9.getD 0 .undef, .int 0]).bind fun _x10 =>
    (gev none .idx [e9.getD 0 .undef, .int 0]).bind fun x11 =>
    (gev none .idx [e9.getD 0 .undef, .int 1]).bind fun _x12 =>
    (gev none .idx [e9.getD 0 .undef, .int 1]).bind fun x13 =>
    (gev none .idx [e9.getD 0 .undef, .int 2]).bind fun _x14 =>
    (gev none .idx [e9.getD 0 .undef, .int 2]).bind fun x15 =>
    (gev none .mkagg [x11, x13, x15]).bind fun x16 =>
    (gev none .mget [e3.getD 0 .undef, x16, .bool false]).bind fun x17 =>
    tif x17 (
     some (2, [.bool true])) (
     (gev none .mkagg [x11, x13, x15]).bind fun x18 =>
     (gev none .mset [e3.getD 0 .undef, x18, .bool true]).bind fun x19 =>
     (gev none (.iar .add .i64) [e3.getD 1 .undef, .int 1]).bind fun x20 =>
     some (0, [x19, x20]))) (
    some (1, [e3.getD 0 .undef, e3.getD 1 .undef, x5]))
def S404 (G : Told) (fuel : Nat) (_x0 x1 : D) : Option (Nat × List D) :=
 (gev none .len [x1]).bind fun x2 =>
 tjoin 3 (
  iter (tbody 2 (S404L0 G x1 x2)) fuel [(.lst []), (.int 0)]) fun _e3 =>
 some (0, [.bool false])
theorem eq404 {G fuel} (x0 x1) : run G fuel T404 [x0, x1] = S404 G fuel x0 x1 := by rw [run_eq]; kernel_rfl
theorem F405_m {t : List Int} (h : t.length ≤ 1048576) : F405 [il t] = some [il (sortI t)] := by
 unfold il
 rw [F405_of (inOf_int t), if_pos h]
def mTw (ss : List (List Int)) : D := .lst ((ss.map fun s => (s, D.bool true)).map kvF)
theorem mget_tw {ss : List (List Int)} {x y z : Int} (hn : ss.Nodup) (hx : 0 ≤ x ∧ x < 64) (hy : 0 ≤ y ∧ y < 64) (hz : 0 ≤ z ∧ z < 64) :
  gev none .mget [mTw ss, .agg [.int x, .int y, .int z], .bool false] = some (.bool (decide ([x, y, z] ∈ ss))) := by
 have hk : kOk [.int x, .int y, .int z] = true := by simp only [kOk, Bool.and_eq_true, decide_eq_true_eq, and_true];omega
 simp only [gev, gok, if_true, mTw, Prim.ev]
 rw [if_pos hk, show ([D.int x, .int y, .int z] : List D) = [x, y, z].map D.int from rfl]
 by_cases h : [x, y, z] ∈ ss
 ·obtain ⟨j, hj, he⟩ := List.getElem_of_mem h
  rw [mfind_at (kvs := ss.map fun s => (s, D.bool true)) (j := j) (kv := ([x, y, z], .bool true)) (by rw [List.map_map]; simpa [Function.comp_def] using hn) (by rw [List.getElem?_map, List.getElem?_eq_getElem hj, he]; rfl) rfl, decide_eq_true h]
  rfl
 ·rw [mfind_no (fun kv hkv he => ?_), decide_eq_false h]
  ·rfl
  ·obtain ⟨s, hs, rfl⟩ := List.mem_map.1 hkv
   exact h (he ▸ hs)
theorem mset_tw {ss : List (List Int)} {x y z : Int} (h : [x, y, z] ∉ ss) (hx : 0 ≤ x ∧ x < 64) (hy : 0 ≤ y ∧ y < 64) (hz : 0 ≤ z ∧ z < 64) :
  gev none .mset [mTw ss, .agg [.int x, .int y, .int z], .bool true] = some (mTw (ss ++ [[x, y, z]])) := by
 have hk : kOk [.int x, .int y, .int z] = true := by simp only [kOk, Bool.and_eq_true, decide_eq_true_eq, and_true];omega
 simp only [gev, gok, if_true, mTw, Prim.ev]
 rw [if_pos hk, show ([D.int x, .int y, .int z] : List D) = [x, y, z].map D.int from rfl, mput_no (fun kv hkv he => ?_)]
 ·rw [List.map_append, List.map_append, List.map_append]
  rfl
 ·obtain ⟨s, hs, rfl⟩ := List.mem_map.1 hkv
  exact h (he ▸ hs)
theorem len3l {l : List Int} (h : l.length = 3) : ∃ a b c, l = [a, b, c] := by
 match l, h with
 | [a, b, c], _ => exact ⟨a, b, c, rfl⟩
theorem sort3 {n : Int} {ts : List (List Int)} (h : TriOk n ts) (hn : n ≤ 64) {i : Nat} (hi : i < ts.length) : ∃ a b c, sortI (ts.getD i []) = [a, b, c] ∧ (0 ≤ a ∧ a < 64) ∧ (0 ≤ b ∧ b < 64) ∧ (0 ≤ c ∧ c < 64) := by
 obtain ⟨x, y, z, ht, _, _, _, h4, h5, h6⟩ := h.at hi
 rw [ht]
 have hp := sortI_perm [x, y, z]
 obtain ⟨a, b, c, he⟩   := len3l (l := sortI [x, y, z]) hp.length_eq
 have hm : ∀ e ∈ sortI [x, y, z], 0 ≤ e ∧ e < 64 := fun e hx => by have := hp.mem_iff.1 hx;simp only [List.mem_cons, List.not_mem_nil, or_false] at this;omega
 rw [he] at hm
 exact ⟨a, b, c, he, hm a (by simp), hm b (by simp), hm c (by simp)⟩
theorem take_sort {ts : List (List Int)} {i : Nat} (hi : i < ts.length) : (ts.take (i + 1)).map sortI = (ts.take i).map sortI ++ [sortI (ts.getD i [])] := by
 rw [take_step hi, List.map_append, getD_lt hi]
 rfl
theorem nodup_snoc2 {l : List (List Int)} {x : List Int} : (l ++ [x]).Nodup ↔ l.Nodup ∧ x ∉ l := by
 rw [List.nodup_append]
 constructor
 ·rintro ⟨h1, _, h3⟩
  exact ⟨h1, fun hx => h3 x hx x (by simp) rfl⟩
 ·rintro ⟨h1, h2⟩
  refine ⟨h1, by simp, fun a ha b hb e => ?_⟩
  rw [List.mem_singleton] at hb;subst e hb;exact h2 ha
attribute [local irreducible] IntKind.wrap il tl vl bo mpD kD edl inr validP sheetP atL edgL sortI mTw

theorem run404 {G : Told} (g405 : G 405 = F405) : Runs G F404 T404 := by
 intro ds rs h
 unfold F404 at h
 split at h
 case h_2 => cases h
 rename_i a b
 obtain ⟨ts, hb, h⟩ := Option.bind_eq_some_iff.1 h
 rw [dT_inv hb]
 split at h
 case isFalse => cases h
 rename_i hc
 simp only [Option.some.injEq] at h
 subst h
 clear hb
 have hT := triOk_of hc
 obtain ⟨_, h128⟩ := valid_len hc
 refine ⟨1000, ?_⟩
 rw [eq404]
 unfold S404
 have hlt := len_tl (l := ts)
 have hm0 : mTw ((ts.take 0).map sortI) = .lst [] := by unfold mTw; rfl
 have hgood : ∀ i, i < ts.length → ((ts.take i).map sortI).Nodup → ((ts.take (i + 1)).map sortI).Nodup → tbody 2 (S404L0 G (tl ts) (.int (ts.length : Int))) [mTw ((ts.take i).map sortI), .int (i : Int)] = some (0, [mTw ((ts.take (i + 1)).map sortI), .int ((i + 1 : Nat) : Int)]) := by
  intro i hi hP hP1;refine tb rfl ?_;obtain ⟨x, y, z, ht, _⟩ := hT.at hi;obtain ⟨p, q, r, hs, k1, k2, k3⟩ := sort3 hT (by omega) hi
  have h0 : decide ((i : Int) < (ts.length : Int)) = true := by simpa using hi
  have hti := p_ti hi;rw [take_sort hi] at hP1 ⊢;have hno := (nodup_snoc2.1 hP1).2;rw [ht] at hti hs hno;rw [ht];have happ := app_il (l := []) (m := [x, y, z]) (by simp)
  rw [List.nil_append] at happ;have c5 : gcall G none 405 [il [x, y, z]] 1 = some [il [p, q, r]] := gcall_on g405 rfl (by rw [F405_m (by simp), hs]) rfl
  rw [hs] at hno ⊢;have hg := mget_tw hP k1 k2 k3;rw [decide_eq_false hno] at hg;have hms := mset_tw hno k1 k2 k3;have hadd := add1n (i := i) (by omega)
  unfold S404L0;simp only [ev0, p_agg, p_i0, p_i1, p_i2, h0, hti, happ, c5, p_i0, p_i1, p_i2, hg, hadd, hms, p_il0]
 have hbad : ∀ i, i < ts.length → ((ts.take i).map sortI).Nodup → ¬ ((ts.take (i + 1)).map sortI).Nodup → tbody 2 (S404L0 G (tl ts) (.int (ts.length : Int))) [mTw ((ts.take i).map sortI), .int (i : Int)] = some (2, [.bool true]) := by
  intro i hi hP hP1;refine tb rfl ?_;obtain ⟨x, y, z, ht, _⟩ := hT.at hi;obtain ⟨p, q, r, hs, k1, k2, k3⟩ := sort3 hT (by omega) hi
  have h0 : decide ((i : Int) < (ts.length : Int)) = true := by simpa using hi
  have hti := p_ti hi;rw [take_sort hi] at hP1;have hno : sortI (ts.getD i []) ∈ (ts.take i).map sortI := Classical.byContradiction fun hx => hP1 (nodup_snoc2.2 ⟨hP, hx⟩)
  rw [ht] at hti hs hno;have happ := app_il (l := []) (m := [x, y, z]) (by simp)
  rw [List.nil_append] at happ;have c5 : gcall G none 405 [il [x, y, z]] 1 = some [il [p, q, r]] := gcall_on g405 rfl (by rw [F405_m (by simp), hs]) rfl
  rw [hs] at hno;have hg := mget_tw hP k1 k2 k3;rw [decide_eq_true hno] at hg;unfold S404L0;simp only [ev0, p_add, p_agg, p_i0, p_i1, p_i2, h0, hti, happ, c5, p_i0, p_i1, p_i2, hg, p_il0]
 have hend : tbody 2 (S404L0 G (tl ts) (.int (ts.length : Int))) [mTw ((ts.take ts.length).map sortI), .int (ts.length : Int)] = some (1, [mTw ((ts.take ts.length).map sortI), .int (ts.length : Int), .bool false]) := by
  refine tb rfl ?_;have h0 : decide ((ts.length : Int) < (ts.length : Int)) = false := by simp
  unfold S404L0;simp only [ev0, p_add, p_lst, p_agg, h0]
 by_cases hN : (ts.map sortI).Nodup
 ·have hit : iter (tbody 2 (S404L0 G (tl ts) (.int (ts.length : Int)))) 1000 [mTw ((ts.take 0).map sortI), .int ((0 : Nat) : Int)] = some (0, [mTw ((ts.take ts.length).map sortI), .int (ts.length : Int), .bool false]) :=
   iter_Pgood (fun i => [mTw ((ts.take i).map sortI), .int (i : Int)]) (fun i => ((ts.take i).map sortI).Nodup) (n := ts.length) (l := 0) (by omega) (fun i h => by
    rcases Nat.lt_or_ge i ts.length with hi | hi
    ·rw [take_sort hi] at h
     exact (nodup_snoc2.1 h).1
    ·rw [List.take_of_length_le (by omega)] at h ⊢
     exact h) hgood hend (by rw [List.take_length]; exact hN)
  rw [hm0] at hit;have hit : iter (tbody 2 (S404L0 G (tl ts) (.int (ts.length : Int)))) 1000 [.lst [], .int 0] = some (0, [mTw ((ts.take ts.length).map sortI), .int (ts.length : Int), .bool false]) := hit;unfold twinB;rw [decide_eq_true hN];simp only [j_0, Option.bind_some, List.length_cons, List.length_nil, Nat.zero_add, Nat.reduceAdd, if_true, Bool.not_true, hlt, hit]
 ·have hit : iter (tbody 2 (S404L0 G (tl ts) (.int (ts.length : Int)))) 1000 [mTw ((ts.take 0).map sortI), .int ((0 : Nat) : Int)] = some (1, [.bool true]) :=
   iter_Pbad (fun i => [mTw ((ts.take i).map sortI), .int (i : Int)]) (fun i => ((ts.take i).map sortI).Nodup) (n := ts.length) (l := 1) (by omega) (by simp) hgood hbad (by rw [List.take_length]; exact hN)
  rw [hm0] at hit;have hit : iter (tbody 2 (S404L0 G (tl ts) (.int (ts.length : Int)))) 1000 [.lst [], .int 0] = some (1, [.bool true]) := hit;unfold twinB;rw [decide_eq_false hN];simp only [j_1, Option.bind_some, Bool.not_false, hlt, hit]
end Vs
