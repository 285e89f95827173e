/-
  Splits of sheets without twins: the sheet and Euler's number are kept, and there are no twins.
-/
import Derived.Test.YtaakjnkllodchaaGreatK53
set_option maxHeartbeats 4000000
namespace Vs
open Go Go.Sort
def sepT (s t : List Int) : Prop := ¬ s.Perm t
theorem sepT_symm {s t : List Int} (h : sepT s t) : sepT t s := fun k => h k.symm
theorem twinB_iff {ts : List (List Int)} : twinB ts = false ↔ ts.Pairwise sepT := by
 unfold twinB
 rw [Bool.not_eq_false', decide_eq_true_eq]
 show (ts.map sortI).Pairwise (· ≠ ·) ↔ _
 rw [List.pairwise_map]
 constructor <;> refine fun h => h.imp fun {a b} k => ?_
 ·exact fun e => k (sortI_eq.2 e)
 ·exact fun e => k (sortI_eq.1 e)
theorem sep_of {s t : List Int} {v : Int} (h1 : v ∈ s) (h2 : v ∉ t) : sepT s t := fun h => h2 (h.mem_iff.1 h1)
theorem sep_of' {s t : List Int} {v : Int} (h1 : v ∈ t) (h2 : v ∉ s) : sepT s t := fun h => h2 (h.mem_iff.2 h1)
theorem pw_set {u : List Int} : ∀ {l : List (List Int)} {j : Nat}, l.Pairwise sepT → (∀ x ∈ l, sepT u x) → (l.set j u).Pairwise sepT
 | [], _, _, _ => by simp
 | x :: l, 0, h, hu => by rw [List.set_cons_zero];rw [List.pairwise_cons] at h ⊢;exact ⟨fun y hy => hu y (List.mem_cons_of_mem _ hy), h.2⟩
 | x :: l, j + 1, h, hu => by
  rw [List.set_cons_succ];rw [List.pairwise_cons] at h ⊢;refine ⟨fun y hy => ?_, pw_set h.2 fun y hy => hu y (List.mem_cons_of_mem _ hy)⟩
  rcases List.mem_or_eq_of_mem_set hy with hy | rfl
  ·exact h.1 y hy
  ·exact sepT_symm (hu x List.mem_cons_self)
theorem pw_app {u : List Int} {l : List (List Int)} (h : l.Pairwise sepT) (hu : ∀ x ∈ l, sepT x u) : (l ++ [u]).Pairwise sepT := by
 rw [List.pairwise_append]
 exact ⟨h, by simp, fun x hx y hy => by rw [List.mem_singleton.1 hy]; exact hu x hx⟩
theorem wayN_app {l m : List (List Int)} : ∀ {k : Nat}, k ≤ l.length → wayN (l ++ m) k = wayN l k
 | 0, _ => rfl
 | k + 1, h => by simp only [wayN];rw [wayN_app (by omega), List.getD_eq_getElem?_getD, List.getElem?_append_left (by omega), ← List.getD_eq_getElem?_getD]
def splA (acc : List (List Int)) (j : Nat) (a b c r : Int) : List (List Int) := acc.set j [a, c, r] ++ [[c, b, r]]
theorem splA_len (acc : List (List Int)) (j : Nat) (a b c r : Int) : (splA acc j a b c r).length = acc.length + 1 := by simp [splA]
theorem splA_cnt {acc : List (List Int)} {j : Nat} {x y z a b c r : Int} (hj : j < acc.length) (e : acc.getD j [] = [x, y, z]) (hg : goesP [x, y, z] a b = true) (hr : thirdP [x, y, z] a b = r) (w : E2) :
  (wayN (splA acc j a b c r) (splA acc j a b c r).length).count w + [(a, b)].count w = (wayN acc acc.length).count w + [(a, c), (c, b), (c, r), (r, c)].count w := by
 rw [splA_len]
 simp only [wayN]
 have e1 : (splA acc j a b c r).getD acc.length [] = [c, b, r] := by
  unfold splA;rw [List.getD_eq_getElem?_getD, List.getElem?_append_right (by simp)]
  simp
 have e2 : wayN (splA acc j a b c r) acc.length = wayN (acc.set j [a, c, r]) acc.length := wayN_app (by simp)
 rw [e1, e2, List.count_append]
 have k1 := cnt_set (t := [a, c, r]) hj w acc.length (Nat.le_refl _)
 rw [if_pos hj, if_pos hj, e, tri_cnt hg w, hr] at k1
 rw [wayT3] at k1 ⊢
 rw [wayT3] at k1
 simp only [List.count_cons, List.count_nil] at k1 ⊢
 omega
theorem splA_mem {acc : List (List Int)} {j : Nat} {a b c r : Int} {t : List Int} (h : t ∈ splA acc j a b c r) : t ∈ acc ∨ t = [a, c, r] ∨ t = [c, b, r] := by
 unfold splA at h
 rw [List.mem_append, List.mem_singleton] at h
 rcases h with h | h
 ·rcases List.mem_or_eq_of_mem_set h with h | h
  ·exact .inl h
  ·exact .inr (.inl h)
 ·exact .inr (.inr h)
theorem splA_pw {acc : List (List Int)} {j : Nat} {a b c r : Int} (h : acc.Pairwise sepT) (h1 : ∀ x ∈ acc, sepT [a, c, r] x) (h2 : ∀ x ∈ acc, sepT x [c, b, r]) (hab : a ≠ b) (hac : a ≠ c) (har : a ≠ r) : (splA acc j a b c r).Pairwise sepT := by
 unfold splA
 refine pw_app (pw_set h h1) fun x hx => ?_
 rcases List.mem_or_eq_of_mem_set hx with hx | rfl
 ·exact h2 x hx
 ·exact sep_of (v := a) (by simp) (by simp; omega)
theorem splS_eq {ts acc : List (List Int)} {p q c : Int} {j : Nat} {x y z : Int} (e : ts.getD j [] = [x, y, z]) :
  splS ts p q c acc (j : Int) = if goesP [x, y, z] p q = true then splA acc j p q c (thirdP [x, y, z] p q) else splA acc j q p c (thirdP [x, y, z] q p) := by
 unfold splS goesA
 rw [Int.toNat_natCast, e]
 have h : thirdP [x, y, z] p q = thirdP [x, y, z] q p := by unfold thirdP; omega
 rw [← h]
 rfl
theorem spl_core {n : Nat} {ts ts' : List (List Int)} {R N NE : List E2} {a b : Int} {k : Nat} (hT : TriOk n ts) (hT' : TriOk (n + 1 : Nat) ts') (hs : ∀ w, (wayN ts ts.length).count w ≤ 1)
  (hc : ∀ w, (wayN ts' ts'.length).count w + R.count w = (wayN ts ts.length).count w + N.count w)
  (ha : a ≠ n) (hb : b ≠ n) (hab : a ≠ b) (hR : ∀ w ∈ R, w = (a, b) ∨ w = (b, a)) (hab0 : (a, b) ∈ R) (hab1 : (a, b) ∈ wayN ts ts.length) (hba : (b, a) ∈ R ∨ (b, a) ∉ wayN ts ts.length)
  (hN : ∀ w ∈ N, w.1 = n ∨ w.2 = n) (hNn : N.Nodup) (hNu : ∀ w ∈ N, w.1 = n ∨ ∃ x, (w.1, x) ∈ wayN ts ts.length)
  (hac : (a, (n : Int)) ∈ N) (hbc : (b, (n : Int)) ∈ N ∨ (b, a) ∉ R) (hnb : ((n : Int), b) ∈ N) (hNE : NE.Nodup) (hNm : ∀ e, e ∈ NE ↔ ∃ w ∈ N, uW w = e) (hl : ts'.length = ts.length + k) (hk : NE.length = k + 2) :
  sheetP ts' = true ∧ eulP (n + 1) ts' = eulP n ts := by
 have hw0 : ∀ w : E2, (w.1 = n ∨ w.2 = n) → w ∉ wayN ts ts.length := fun w h hm => by have := way_in hT ts.length (Nat.le_refl _) w hm;omega
 have hNab : ∀ u v : Int, u ≠ n → v ≠ n → N.count (u, v) = 0 := fun u v h1 h2 => List.count_eq_zero.2 fun hm => by have := hN _ hm;simp only at this;omega
 have hR0 : ∀ w : E2, (w.1 = n ∨ w.2 = n) → w ∉ R := fun w h hm => by
  rcases hR w hm with rfl | rfl <;> simp only at h <;> omega
 constructor
 ·unfold sheetP
  rw [decide_eq_true_eq, nodup_count];intro w;have h1 := hc w;have h2 := hs w
  by_cases h3 : w ∈ N
  ·rw [List.count_eq_zero.2 (hw0 w (hN w h3))] at h1
   have := nodup_count.1 hNn w;omega
  ·rw [List.count_eq_zero.2 h3] at h1
   omega
 ·have hE := edge_count hT hT' (e0 := uE a b) (NE := NE) hc
   (fun w hw => by
    rcases hR w hw with rfl | rfl
    ·rfl
    ·exact uE_comm _ _)
   ⟨(a, b), hab0, hab1⟩
   (fun w hw => hR0 w (hN w hw))
   (fun hm => by
    rw [edg_at hT'] at hm
    rcases hm with hm | hm
    ·have h1 := List.count_pos_iff.2 hm
     have h2 := hc (a, b);have h3 := hs (a, b);have h4 := hNab a b ha hb;have h5 := List.count_pos_iff.2 hab0;omega
    ·have h1 := List.count_pos_iff.2 hm
     have h2 := hc (b, a);have h3 := hs (b, a);have h4 := hNab b a hb ha
     rcases hba with h | h
     ·have h5 := List.count_pos_iff.2 h
      omega
     ·have h5 := List.count_eq_zero.2 h
      omega)
   hNE hNm
   (fun e he hm => by
    obtain ⟨w, hw, rfl⟩ := (hNm e).1 he;obtain ⟨w2, hw2, e2⟩ := (edgL_mem hT _).1 hm;have h1 := hN w hw;have h2 := way_in hT ts.length (Nat.le_refl _) w2 hw2;unfold uW at e2;have := uE_iff.1 e2
    omega)
  have hU : usN ts' n = usN ts n := usN_same fun v hvn => used_count hT hT' (c := n) hc
   (fun w hw => by
    rcases hR w hw with rfl | rfl
    ·exact ⟨n, .inr hac, hR0 _ (.inr rfl)⟩
    ·rcases hbc with h | h
     ·exact ⟨n, .inr h, hR0 _ (.inr rfl)⟩
     ·exact absurd hw h)
   hNu (by omega)
  have hUn : usedP ts' n = true := by rw [used_way hT'];refine ⟨b, List.count_pos_iff.1 ?_⟩;have h2 := hc ((n : Int), b);have h5 := List.count_pos_iff.2 hnb;rw [List.count_eq_zero.2 (hR0 _ (.inl rfl))] at h2;omega
  unfold eulP;simp only [usN];rw [hU, hUn, if_pos rfl, hl];omega
theorem spl_one {n : Nat} {ts : List (List Int)} {j : Nat} {x y z a b : Int} (hT : TriOk n ts) (hs : ∀ w, (wayN ts ts.length).count w ≤ 1) (hp : ts.Pairwise sepT) (hj : j < ts.length) (e : ts.getD j [] = [x, y, z]) (hg : goesP [x, y, z] a b = true) (hba : (b, a) ∉ wayN ts ts.length) :
  TriOk (n + 1 : Nat) (splA ts j a b n (thirdP [x, y, z] a b)) ∧ (sheetP (splA ts j a b n (thirdP [x, y, z] a b)) = true ∧ eulP (n + 1) (splA ts j a b n (thirdP [x, y, z] a b)) = eulP n ts) ∧ (splA ts j a b n (thirdP [x, y, z] a b)).Pairwise sepT := by
 obtain ⟨w1, w2, w3, d1, d2, d3, ra, rb, rr, _⟩ := tri_ways hT hj (a := a) (b := b) (by rw [e]; exact hg)
 rw [e] at w2 w3 d2 d3 rr
 have hcn := splA_cnt (c := n) hj e hg rfl
 generalize thirdP [x, y, z] a b = r at *
 have hT' : TriOk (n + 1 : Nat) (splA ts j a b n r) := fun t ht => by
  rcases splA_mem ht with ht | rfl | rfl
  ·obtain ⟨u, v, w, e, h⟩ := hT t ht
   exact ⟨u, v, w, e, by omega⟩
  ·exact ⟨_, _, _, rfl, by omega⟩
  ·exact ⟨_, _, _, rfl, by omega⟩
 have hin : ∀ t ∈ ts, (n : Int) ∉ t := fun t ht hm => by obtain ⟨u, v, w, rfl, h⟩ := hT t ht;simp only [List.mem_cons, List.not_mem_nil, or_false] at hm;omega
 refine ⟨hT', spl_core (R := [(a, b)]) (N := [(a, (n : Int)), ((n : Int), b), ((n : Int), r), (r, (n : Int))]) (NE := [uE a n, uE n b, uE n r]) (k := 1) hT hT' hs hcn (by omega) (by omega) d1 (by simp) (by simp) w1 (.inr hba) ?_ ?_ ?_ (by simp) (.inr (by simp; omega)) (by simp) ?_ ?_ (splA_len ..) rfl, splA_pw hp (fun t ht => sep_of (v := n) (by simp) (hin t ht)) (fun t ht => sep_of' (v := n) (by simp) (hin t ht)) d1 (by omega) (by omega)⟩
 ·intro w hw
  simp only [List.mem_cons, List.not_mem_nil, or_false] at hw
  rcases hw with rfl | rfl | rfl | rfl <;> simp
 ·simp only [List.nodup_cons, List.mem_cons, List.not_mem_nil, or_false, Prod.mk.injEq, not_false_eq_true, List.nodup_nil, and_true]
  omega
 ·intro w hw
  simp only [List.mem_cons, List.not_mem_nil, or_false] at hw
  rcases hw with rfl | rfl | rfl | rfl
  ·exact .inr ⟨b, w1⟩
  ·exact .inl rfl
  ·exact .inl rfl
  ·exact .inr ⟨a, w3⟩
 ·simp only [List.nodup_cons, List.mem_cons, List.not_mem_nil, or_false, uE_iff, not_false_eq_true, List.nodup_nil, and_true]
  omega
 ·intro e
  simp only [List.mem_cons, List.not_mem_nil, or_false]
  constructor
  ·rintro (rfl | rfl | rfl)
   ·exact ⟨(a, (n : Int)), by simp, rfl⟩
   ·exact ⟨((n : Int), b), by simp, rfl⟩
   ·exact ⟨((n : Int), r), by simp, rfl⟩
  ·rintro ⟨w, rfl | rfl | rfl | rfl, rfl⟩
   ·exact .inl rfl
   ·exact .inr (.inl rfl)
   ·exact .inr (.inr rfl)
   ·exact .inr (.inr (uE_comm _ _))
theorem spl_two {n : Nat} {ts : List (List Int)} {j i : Nat} {x y z x' y' z' a b : Int} (hT : TriOk n ts) (hs : ∀ w, (wayN ts ts.length).count w ≤ 1) (hp : ts.Pairwise sepT) (hj : j < ts.length) (e : ts.getD j [] = [x, y, z]) (hg : goesP [x, y, z] a b = true)
  (hi : i < ts.length) (hij : i ≠ j) (e' : ts.getD i [] = [x', y', z']) (hg' : goesP [x', y', z'] b a = true) :
  TriOk (n + 1 : Nat) (splA (splA ts j a b n (thirdP [x, y, z] a b)) i b a n (thirdP [x', y', z'] b a)) ∧ (sheetP (splA (splA ts j a b n (thirdP [x, y, z] a b)) i b a n (thirdP [x', y', z'] b a)) = true ∧
   eulP (n + 1) (splA (splA ts j a b n (thirdP [x, y, z] a b)) i b a n (thirdP [x', y', z'] b a)) = eulP n ts) ∧ (splA (splA ts j a b n (thirdP [x, y, z] a b)) i b a n (thirdP [x', y', z'] b a)).Pairwise sepT := by
 obtain ⟨w1, w2, w3, d1, d2, d3, ra, rb, rr, m1⟩ := tri_ways hT hj (a := a) (b := b) (by rw [e]; exact hg)
 obtain ⟨v1, v2, v3, f1, f2, f3, _, _, sr, m2⟩ := tri_ways hT hi (a := b) (b := a) (by rw [e']; exact hg')
 rw [e] at w2 w3 d2 d3 rr m1
 rw [e'] at v2 v3 f2 f3 sr m2
 have hcn := splA_cnt (c := n) hj e hg rfl
 have hget : (splA ts j a b n (thirdP [x, y, z] a b)).getD i [] = [x', y', z'] := by rw [← e'];unfold splA;rw [List.getD_eq_getElem?_getD, List.getD_eq_getElem?_getD, List.getElem?_append_left (by simpa using hi), List.getElem?_set_ne (by omega)]
 have hcn2 := splA_cnt (c := n) (by rw [splA_len]; omega) hget hg' rfl
 have hne : thirdP [x, y, z] a b ≠ thirdP [x', y', z'] b a := by
  intro hrr;rw [← hrr] at m2;obtain ⟨_, _, _, e1, n1, n2, n3, _⟩ := hT.at hj;obtain ⟨_, _, _, e2, n4, n5, n6, _⟩ := hT.at hi;rw [e] at e1;rw [e'] at e2;simp only [List.cons.injEq, and_true] at e1 e2;obtain ⟨rfl, rfl, rfl⟩ := e1;obtain ⟨rfl, rfl, rfl⟩ := e2;have hperm : [x, y, z].Perm [x', y', z'] := by
   rw [List.perm_ext_iff_of_nodup (by simp; omega) (by simp; omega)]
   intro v;rw [m1, m2];omega
  rw [getD_lt hj] at e;rw [getD_lt hi] at e';have hpw := List.pairwise_iff_getElem.1 hp
  rcases Nat.lt_or_ge i j with h | h
  ·exact hpw i j hi hj h (by rw [e, e']; exact hperm.symm)
  ·exact hpw j i hj hi (by omega) (by rw [e, e']; exact hperm)
 generalize thirdP [x, y, z] a b = r at *
 generalize thirdP [x', y', z'] b a = s at *
 have hT1 : ∀ t ∈ splA (splA ts j a b n r) i b a n s, t ∈ ts ∨ t = [a, (n : Int), r] ∨ t = [(n : Int), b, r] ∨ t = [b, (n : Int), s] ∨ t = [(n : Int), a, s] := fun t ht => by
  rcases splA_mem ht with ht | ht | ht
  ·rcases splA_mem ht with ht | ht | ht
   ·exact .inl ht
   ·exact .inr (.inl ht)
   ·exact .inr (.inr (.inl ht))
  ·exact .inr (.inr (.inr (.inl ht)))
  ·exact .inr (.inr (.inr (.inr ht)))
 have hT' : TriOk (n + 1 : Nat) (splA (splA ts j a b n r) i b a n s) := fun t ht => by
  rcases hT1 t ht with ht | rfl | rfl | rfl | rfl
  ·obtain ⟨u, v, w, e, h⟩ := hT t ht
   exact ⟨u, v, w, e, by omega⟩
  ·exact ⟨_, _, _, rfl, by omega⟩
  ·exact ⟨_, _, _, rfl, by omega⟩
  ·exact ⟨_, _, _, rfl, by omega⟩
  ·exact ⟨_, _, _, rfl, by omega⟩
 have hin : ∀ t ∈ ts, (n : Int) ∉ t := fun t ht hm => by obtain ⟨u, v, w, rfl, h⟩ := hT t ht;simp only [List.mem_cons, List.not_mem_nil, or_false] at hm;omega
 have hp1 : (splA ts j a b n r).Pairwise sepT := splA_pw hp (fun t ht => sep_of (v := n) (by simp) (hin t ht)) (fun t ht => sep_of' (v := n) (by simp) (hin t ht)) d1 (by omega) (by omega)
 refine ⟨hT', spl_core (R := [(a, b), (b, a)]) (N := [(a, (n : Int)), ((n : Int), b), ((n : Int), r), (r, (n : Int)), (b, (n : Int)), ((n : Int), a), ((n : Int), s), (s, (n : Int))]) (NE := [uE a n, uE n b, uE n r, uE n s]) (k := 2) hT hT' hs ?_ (by omega) (by omega) d1 (by simp) (by simp) w1 (.inl (by simp)) ?_ ?_ ?_ (by simp) (.inl (by simp)) (by simp) ?_ ?_ (by rw [splA_len, splA_len]) rfl, splA_pw hp1 ?_ ?_ f1 (by omega) (by omega)⟩
 ·intro w
  have h1 := hcn w;have h2 := hcn2 w;simp only [List.count_cons, List.count_nil] at h1 h2 ⊢;omega
 ·intro w hw
  simp only [List.mem_cons, List.not_mem_nil, or_false] at hw
  rcases hw with rfl | rfl | rfl | rfl | rfl | rfl | rfl | rfl <;> simp
 ·simp only [List.nodup_cons, List.mem_cons, List.not_mem_nil, or_false, Prod.mk.injEq, not_false_eq_true, List.nodup_nil, and_true]
  omega
 ·intro w hw
  simp only [List.mem_cons, List.not_mem_nil, or_false] at hw
  rcases hw with rfl | rfl | rfl | rfl | rfl | rfl | rfl | rfl
  ·exact .inr ⟨b, w1⟩
  ·exact .inl rfl
  ·exact .inl rfl
  ·exact .inr ⟨a, w3⟩
  ·exact .inr ⟨a, v1⟩
  ·exact .inl rfl
  ·exact .inl rfl
  ·exact .inr ⟨b, v3⟩
 ·simp only [List.nodup_cons, List.mem_cons, List.not_mem_nil, or_false, uE_iff, not_false_eq_true, List.nodup_nil, and_true]
  omega
 ·intro e
  simp only [List.mem_cons, List.not_mem_nil, or_false]
  constructor
  ·rintro (rfl | rfl | rfl | rfl)
   ·exact ⟨(a, (n : Int)), by simp, rfl⟩
   ·exact ⟨((n : Int), b), by simp, rfl⟩
   ·exact ⟨((n : Int), r), by simp, rfl⟩
   ·exact ⟨((n : Int), s), by simp, rfl⟩
  ·rintro ⟨w, rfl | rfl | rfl | rfl | rfl | rfl | rfl | rfl, rfl⟩
   ·exact .inl rfl
   ·exact .inr (.inl rfl)
   ·exact .inr (.inr (.inl rfl))
   ·exact .inr (.inr (.inl (uE_comm _ _)))
   ·exact .inr (.inl (uE_comm _ _))
   ·exact .inl (uE_comm _ _)
   ·exact .inr (.inr (.inr rfl))
   ·exact .inr (.inr (.inr (uE_comm _ _)))
 ·intro t ht
  rcases splA_mem ht with ht | rfl | rfl
  ·exact sep_of (v := n) (by simp) (hin t ht)
  ·exact sep_of (v := b) (by simp) (by simp; omega)
  ·exact sep_of (v := s) (by simp) (by simp; omega)
 ·intro t ht
  rcases splA_mem ht with ht | rfl | rfl
  ·exact sep_of' (v := n) (by simp) (hin t ht)
  ·exact sep_of' (v := s) (by simp) (by simp; omega)
  ·exact sep_of' (v := a) (by simp) (by simp; omega)
theorem spl_main {n : Nat} {ts : List (List Int)} {p q : Int} (hv : validP n ts = true) (hs : sheetP ts = true) (ht : twinB ts = false) (hpq : p ≠ q) (hat : (atL ts p q).length ≠ 0) :
  TriOk (n + 1 : Nat) (splT ts p q n) ∧ (sheetP (splT ts p q n) = true ∧ eulP (n + 1) (splT ts p q n) = eulP n ts) ∧ twinB (splT ts p q n) = false ∧ (splT ts p q n).length ≤ ts.length + 2 := by
 have hT := triOk_of hv
 rw [twinB_iff] at ht
 rw [twinB_iff]
 unfold sheetP at hs
 rw [decide_eq_true_eq, nodup_count] at hs
 have c1 := hs (p, q)
 have c2 := hs (q, p)
 rw [count_way hT _ _ _ (Nat.le_refl _), show atN ts p q ts.length = atL ts p q from rfl] at c1
 rw [count_rev hT hpq] at c2
 have n1 : ∀ w, w ∈ wayN ts ts.length → 0 < (wayN ts ts.length).count w := fun w h => List.count_pos_iff.2 h
 have w1 := count_way hT p q ts.length (Nat.le_refl _)
 rw [show atN ts p q ts.length = atL ts p q from rfl] at w1
 have w2 := count_rev hT hpq
 have hin : ∀ j ∈ atL ts p q, ∃ i : Nat, j = (i : Int) ∧ i < ts.length ∧ ∃ x y z, ts.getD i [] = [x, y, z] ∧ x ≠ y ∧ y ≠ z ∧ x ≠ z ∧ hasB [x, y, z] p q = true ∧ goesA ts p q j = goesP [x, y, z] p q := fun j hj => by obtain ⟨l0, l1⟩ := atL_in hj;obtain ⟨x, y, z, e, h1, h2, h3, _, _, _, hh⟩ := atL_tri hT hj;exact ⟨j.toNat, by omega, by omega, x, y, z, e, h1, h2, h3, hh, by unfold goesA; rw [e]⟩
 unfold splT
 match hal : atL ts p q, hat with
 | [j], _ =>
  obtain ⟨i, rfl, hi, x, y, z, e, h1, h2, h3, hh, hg⟩ := hin j (by rw [hal]; simp)
  show TriOk (n + 1 : Nat) (splS ts p q n ts ((atL ts p q).getD 0 0)) ∧ (sheetP (splS ts p q n ts ((atL ts p q).getD 0 0)) = true ∧ eulP (n + 1) (splS ts p q n ts ((atL ts p q).getD 0 0)) = eulP n ts) ∧ (splS ts p q n ts ((atL ts p q).getD 0 0)).Pairwise sepT ∧ (splS ts p q n ts ((atL ts p q).getD 0 0)).length ≤ ts.length + 2;rw [hal] at w1 w2 ⊢;rw [List.getD_cons_zero, splS_eq e];simp only [List.countP_cons, List.countP_nil, hg] at w1 w2
  cases hc : goesP [x, y, z] p q
  ·rw [if_neg (by simp)]
   have hr := goes_rev h1 h2 h3 hpq hh;rw [hc] at hr;rw [hc] at w1;obtain ⟨a1, a2, a3⟩ := spl_one hT hs ht hi e hr (fun hm => by have := n1 _ hm; rw [w1] at this; simp at this)
   exact ⟨a1, a2, a3, by rw [splA_len]; omega⟩
  ·rw [if_pos rfl]
   rw [hc] at w2;obtain ⟨a1, a2, a3⟩ := spl_one hT hs ht hi e hc (fun hm => by have := n1 _ hm; rw [w2] at this; simp at this)
   exact ⟨a1, a2, a3, by rw [splA_len]; omega⟩
 | [j, j'], _ =>
  obtain ⟨i, rfl, hi, x, y, z, e, h1, h2, h3, hh, hg⟩ := hin j (by rw [hal]; simp)
  obtain ⟨i', rfl, hi', x', y', z', e', h1', h2', h3', hh', hg'⟩ := hin j' (by rw [hal]; simp)
  show TriOk (n + 1 : Nat) (splS ts p q n (splS ts p q n ts ((atL ts p q).getD 0 0)) ((atL ts p q).getD 1 0)) ∧ (sheetP (splS ts p q n (splS ts p q n ts ((atL ts p q).getD 0 0)) ((atL ts p q).getD 1 0)) = true ∧ eulP (n + 1) (splS ts p q n (splS ts p q n ts ((atL ts p q).getD 0 0)) ((atL ts p q).getD 1 0)) = eulP n ts) ∧
   (splS ts p q n (splS ts p q n ts ((atL ts p q).getD 0 0)) ((atL ts p q).getD 1 0)).Pairwise sepT ∧ (splS ts p q n (splS ts p q n ts ((atL ts p q).getD 0 0)) ((atL ts p q).getD 1 0)).length ≤ ts.length + 2
  rw [hal] at c1 c2 ⊢;rw [List.getD_cons_zero, List.getD_cons_succ, List.getD_cons_zero, splS_eq e, splS_eq e'];simp only [List.countP_cons, List.countP_nil, hg, hg'] at c1 c2;have hr := goes_rev h1 h2 h3 hpq hh;have hr' := goes_rev h1' h2' h3' hpq hh'
  cases hc : goesP [x, y, z] p q <;> cases hc' : goesP [x', y', z'] p q
  ·rw [hc, hc'] at c2; simp at c2
  ·have hne : i' ≠ i := by intro hee; subst hee;rw [e] at e'; simp only [List.cons.injEq, and_true] at e';obtain ⟨rfl, rfl, rfl⟩ := e';rw [hc] at hc'; cases hc'
   rw [hc] at hr;simp only [if_true, Bool.false_eq_true, if_false];obtain ⟨a1, a2, a3⟩ := spl_two hT hs ht hi e hr hi' hne e' hc';exact ⟨a1, a2, a3, by rw [splA_len, splA_len]; omega⟩
  ·have hne : i' ≠ i := by intro hee; subst hee;rw [e] at e'; simp only [List.cons.injEq, and_true] at e';obtain ⟨rfl, rfl, rfl⟩ := e';rw [hc] at hc'; cases hc'
   rw [hc'] at hr';simp only [if_true, Bool.false_eq_true, if_false];obtain ⟨a1, a2, a3⟩ := spl_two hT hs ht hi e hc hi' hne e' hr';exact ⟨a1, a2, a3, by rw [splA_len, splA_len]; omega⟩
  ·rw [hc, hc'] at c1; simp at c1
 | a :: b :: c :: l, _ =>
  rw [hal] at c1 c2;have := List.length_eq_countP_add_countP (goesA ts p q) (l := a :: b :: c :: l);simp only [List.length_cons] at this;have e2 : List.countP (fun j => !goesA ts p q j) (a :: b :: c :: l) = List.countP (fun j => decide ¬goesA ts p q j = true) (a :: b :: c :: l) := List.countP_congr fun j _ => by simp
  omega
end Vs
