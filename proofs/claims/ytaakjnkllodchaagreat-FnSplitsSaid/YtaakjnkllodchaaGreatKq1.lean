/-
  Edges of meshes, ways of triangles, sheets: plain facts about lists.
-/
import Derived.Test.YtaakjnkllodchaaGreatK14
import Derived.Test.YtaakjnkllodchaaGreatNx1
set_option maxHeartbeats 4000000
namespace Vs
open Go Go.Sort
abbrev E2 := Int × Int
def uE (a b : Int) : E2 := (min a b, max a b)
theorem uE_comm (a b : Int) : uE a b = uE b a := by unfold uE; rw [Int.min_comm, Int.max_comm]
theorem uE_iff {a b x y : Int} : uE x y = uE a b ↔ (x = a ∧ y = b) ∨ (x = b ∧ y = a) := by
 unfold uE
 simp only [Prod.mk.injEq]
 omega
theorem uE_lt {a b : Int} (h : a < b) : uE a b = (a, b) := by
 unfold uE
 simp only [Prod.mk.injEq]
 omega
def lk {β : Type} : List (E2 × β) → E2 → Option β
 | [], _ => none
 | kv :: r, e => if kv.1 = e then some kv.2 else lk r e
def pt {β : Type} : List (E2 × β) → E2 → β → List (E2 × β)
 | [], e, v => [(e, v)]
 | kv :: r, e, v => if kv.1 = e then (e, v) :: r else kv :: pt r e v
def ix {β : Type} : List (E2 × β) → E2 → Option Nat
 | [], _ => none
 | kv :: r, e => if kv.1 = e then some 0 else (ix r e).map (· + 1)
theorem lk_pt {β : Type} (e e' : E2) (v : β) : ∀ kvs : List (E2 × β), lk (pt kvs e v) e' = if e = e' then some v else lk kvs e'
 | [] => rfl
 | kv :: r => by
  have ih := lk_pt e e' v r;unfold pt
  by_cases h : kv.1 = e
  ·rw [if_pos h]
   simp only [lk]
   by_cases h2 : e = e'
   ·rw [if_pos h2, if_pos h2]
   ·rw [if_neg h2, if_neg h2, if_neg (by rw [h]; exact h2)]
  ·rw [if_neg h]
   simp only [lk];rw [ih]
   by_cases h2 : kv.1 = e'
   ·rw [if_pos h2, if_pos h2, if_neg (by rw [← h2]; exact fun q => h q.symm)]
   ·rw [if_neg h2, if_neg h2]
theorem ix_pt {β : Type} (e : E2) (v v' : β) : ∀ kvs : List (E2 × β), ∃ j, ix (pt kvs e v) e = some j ∧ j < (pt kvs e v).length ∧ ∃ u, (pt kvs e v)[j]? = some (e, u) ∧ (pt kvs e v).set j (e, v') = pt kvs e v'
 | [] => ⟨0, by simp [pt, ix], by simp [pt], v, rfl, rfl⟩
 | kv :: r => by
  obtain ⟨j, h1, h2, u, h3, h4⟩ := ix_pt e v v' r
  by_cases h : kv.1 = e
  ·exact ⟨0, by simp [pt, ix, h], by simp [pt, h], v, by simp [pt, h], by simp [pt, h]⟩
  ·refine ⟨j + 1, ?_, ?_, u, ?_, ?_⟩
   ·simp [pt, ix, h, h1]
   ·simp [pt, h]; omega
   ·simp [pt, h, h3]
   ·simp [pt, h, h4]
def kD (e : E2) : D := .agg [.int e.1, .int e.2]
def mpD {β : Type} (f : β → D) (kvs : List (E2 × β)) : D := .lst (kvs.map fun kv => .agg [kD kv.1, f kv.2])
def kIn (e : E2) : Bool := decide (-9223372036854775808 ≤ e.1) && decide (e.1 < 9223372036854775808) && (decide (-9223372036854775808 ≤ e.2) && decide (e.2 < 9223372036854775808))
theorem kOk_of2 {e : E2} (h : kIn e = true) : kOk [.int e.1, .int e.2] = true := by
 unfold kIn at h
 simp only [Bool.and_eq_true, decide_eq_true_eq] at h
 simp only [kOk, Bool.and_eq_true, decide_eq_true_eq, and_true]
 omega
theorem kEq2 (e e' : E2) : (kEq [.int e.1, .int e.2] [.int e'.1, .int e'.2] = true) ↔ e = e' := by
 simp only [kEq, Bool.and_eq_true, beq_iff_eq, and_true]
 constructor
 ·intro h; exact Prod.ext h.1 h.2
 ·rintro rfl; exact ⟨rfl, rfl⟩
theorem mfind_mp {β : Type} (f : β → D) (e : E2) : ∀ kvs : List (E2 × β), mfind [.int e.1, .int e.2] (kvs.map fun kv => .agg [kD kv.1, f kv.2]) = (lk kvs e).map f
 | [] => rfl
 | kv :: r => by
  simp only [List.map_cons, kD, mfind, lk]
  by_cases h : kv.1 = e
  ·rw [if_pos ((kEq2 _ _).2 h), if_pos h]; rfl
  ·rw [if_neg (fun q => h ((kEq2 _ _).1 q)), if_neg h]; exact mfind_mp f e r
theorem mput_mp {β : Type} (f : β → D) (e : E2) (v : β) : ∀ kvs : List (E2 × β), mput [.int e.1, .int e.2] (f v) (kvs.map fun kv => .agg [kD kv.1, f kv.2]) = (pt kvs e v).map fun kv => .agg [kD kv.1, f kv.2]
 | [] => rfl
 | kv :: r => by
  simp only [List.map_cons, kD, mput, pt]
  by_cases h : kv.1 = e
  ·rw [if_pos ((kEq2 _ _).2 h), if_pos h, h]; rfl
  ·rw [if_neg (fun q => h ((kEq2 _ _).1 q)), if_neg h, List.map_cons]
   have := mput_mp f e v r;simp only [kD] at this ⊢;rw [this]
theorem mwhere_mp {β : Type} (f : β → D) (e : E2) : ∀ kvs : List (E2 × β), mwhere [.int e.1, .int e.2] (kvs.map fun kv => .agg [kD kv.1, f kv.2]) = ix kvs e
 | [] => rfl
 | kv :: r => by
  simp only [List.map_cons, kD, mwhere, ix]
  by_cases h : kv.1 = e
  ·rw [if_pos ((kEq2 _ _).2 h), if_pos h]
  ·rw [if_neg (fun q => h ((kEq2 _ _).1 q)), if_neg h, ← mwhere_mp f e r]; rfl
theorem mOk_mp {β : Type} (f : β → D) : ∀ kvs : List (E2 × β), mOk (kvs.map fun kv => .agg [kD kv.1, f kv.2]) = true
 | [] => rfl
 | kv :: r => by simp [kD, mOk, kInt]; exact mOk_mp f r
theorem mget_mp {β : Type} {f : β → D} {kvs : List (E2 × β)} {e : E2} {z : D} (h : kIn e = true) : Prim.ev .mget [mpD f kvs, kD e, z] = some (((lk kvs e).map f).getD z) := by
 simp only [mpD, kD, Prim.ev]
 rw [if_pos (kOk_of2 h)]
 have := mfind_mp f e kvs
 simp only [kD] at this
 rw [this]
theorem mset_mp {β : Type} {f : β → D} {kvs : List (E2 × β)} {e : E2} {v : β} (h : kIn e = true) : Prim.ev .mset [mpD f kvs, kD e, f v] = some (mpD f (pt kvs e v)) := by
 simp only [mpD, kD, Prim.ev]
 rw [if_pos (kOk_of2 h)]
 have := mput_mp f e v kvs
 simp only [kD] at this
 rw [this]
theorem ment_mp {β : Type} {f : β → D} {kvs : List (E2 × β)} {e : E2} {z : β} (h : kIn e = true) : Prim.ev .ment [mpD f kvs, kD e, f z] = some (mpD f (pt kvs e ((lk kvs e).getD z))) := by
 have h1 := mOk_mp f kvs
 simp only [mpD, kD, Prim.ev] at h1 ⊢
 rw [if_pos ⟨kOk_of2 h, h1⟩]
 have h2 := mfind_mp f e kvs
 have h3 := mput_mp f e ((lk kvs e).getD z) kvs
 simp only [kD] at h2 h3
 rw [h2, show ((lk kvs e).map f).getD (f z) = f ((lk kvs e).getD z) by cases lk kvs e <;> rfl, h3]
theorem midx_mp {β : Type} {f : β → D} {kvs : List (E2 × β)} {e : E2} {j : Nat} (h : kIn e = true) (hj : ix kvs e = some j) : Prim.ev .midx [mpD f kvs, kD e] = some (.int (j : Int)) := by
 simp only [mpD, kD, Prim.ev]
 rw [if_pos (kOk_of2 h)]
 have := mwhere_mp f e kvs
 simp only [kD] at this
 rw [this, hj]
 rfl
theorem mseti_mp {β : Type} {f : β → D} {kvs : List (E2 × β)} {e : E2} {j : Nat} {u v : β} (hj : kvs[j]? = some (e, u)) : Prim.ev .mseti [mpD f kvs, .int (j : Int), f v] = some (mpD f (kvs.set j (e, v))) := by
 simp only [mpD, Prim.ev, Int.toNat_natCast, List.getElem?_map, hj, Option.map_some]
 rw [if_pos (by omega), List.map_set]
def wy (t : List Int) (k : Nat) : E2 := (t.getD k 0, t.getD ((k + 1) % 3) 0)
def wayT (t : List Int) : Nat → List E2
 | 0 => []
 | k + 1 => wayT t k ++ [wy t k]
def wayN (ts : List (List Int)) : Nat → List E2
 | 0 => []
 | i + 1 => wayN ts i ++ wayT (ts.getD i []) 3
def uW (w : E2) : E2 := uE w.1 w.2
def occT (t : List Int) (i : Int) (k : Nat) : List (E2 × Int) := (wayT t k).map fun w => (uW w, i)
def occN (ts : List (List Int)) : Nat → List (E2 × Int)
 | 0 => []
 | i + 1 => occN ts i ++ occT (ts.getD i []) i 3
def hasB (t : List Int) (a b : Int) : Bool := t.contains a && t.contains b
def atN (ts : List (List Int)) (a b : Int) : Nat → List Int
 | 0 => []
 | i + 1 => if hasB (ts.getD i []) a b then atN ts a b i ++ [(i : Int)] else atN ts a b i
def atL (ts : List (List Int)) (a b : Int) : List Int := atN ts a b ts.length
def goesP (t : List Int) (a b : Int) : Bool := (t.getD 0 0 == a && t.getD 1 0 == b) || ((t.getD 1 0 == a && t.getD 2 0 == b) || (t.getD 2 0 == a && t.getD 0 0 == b))
def TriOk (n : Int) (ts : List (List Int)) : Prop := ∀ t ∈ ts, ∃ x y z, t = [x, y, z] ∧ x ≠ y ∧ y ≠ z ∧ x ≠ z ∧ (0 ≤ x ∧ x < n) ∧ (0 ≤ y ∧ y < n) ∧ (0 ≤ z ∧ z < n)
theorem triOk_of {n : Nat} {ts : List (List Int)} (h : validP n ts = true) : TriOk n ts := by
 intro t ht
 unfold validP at h
 simp only [Bool.and_eq_true, decide_eq_true_eq] at h
 have := List.all_eq_true.1 h.2 t ht
 unfold triP at this
 split at this
 ·rename_i x y z
  simp only [Bool.and_eq_true, List.all_cons, List.all_nil, Bool.and_true, Bool.not_eq_true', beq_eq_false_iff_ne, inr, decide_eq_true_eq] at this;obtain ⟨⟨⟨h1, h2⟩, h3⟩, h4, h5, h6⟩ := this;exact ⟨x, y, z, rfl, h1, h2, h3, by omega, by omega, by omega⟩
 ·cases this
theorem TriOk.at {n : Int} {ts : List (List Int)} (h : TriOk n ts) {i : Nat} (hi : i < ts.length) : ∃ x y z, ts.getD i [] = [x, y, z] ∧ x ≠ y ∧ y ≠ z ∧ x ≠ z ∧ (0 ≤ x ∧ x < n) ∧ (0 ≤ y ∧ y < n) ∧ (0 ≤ z ∧ z < n) := by
 rw [getD_lt hi]
 exact h _ (List.getElem_mem hi)
theorem atN_comm (ts : List (List Int)) (a b : Int) : ∀ i, atN ts a b i = atN ts b a i
 | 0 => rfl
 | i + 1 => by simp only [atN, atN_comm ts a b i, hasB, Bool.and_comm]
theorem atN_lt (ts : List (List Int)) (a b : Int) : ∀ i, ∀ j ∈ atN ts a b i, 0 ≤ j ∧ j < (i : Int)
 | 0, j, h => by simp [atN] at h
 | i + 1, j, h => by
  simp only [atN] at h;split at h
  ·rcases List.mem_append.1 h with h | h
   ·have := atN_lt ts a b i j h; omega
   ·simp only [List.mem_singleton] at h; omega
  ·have := atN_lt ts a b i j h; omega
theorem atN_len (ts : List (List Int)) (a b : Int) : ∀ i, (atN ts a b i).length ≤ i
 | 0 => by simp [atN]
 | i + 1 => by
  have := atN_len ts a b i;simp only [atN];split
  ·simp; omega
  ·omega
theorem atN_has (ts : List (List Int)) (a b : Int) : ∀ i, ∀ j ∈ atN ts a b i, hasB (ts.getD j.toNat []) a b = true
 | 0, j, h => by simp [atN] at h
 | i + 1, j, h => by
  simp only [atN] at h;split at h
  ·rename_i hh
   rcases List.mem_append.1 h with h | h
   ·exact atN_has ts a b i j h
   ·simp only [List.mem_singleton] at h; subst h; simpa using hh
  ·exact atN_has ts a b i j h
theorem wayT3 (x y z : Int) : wayT [x, y, z] 3 = [(x, y), (y, z), (z, x)] := rfl
abbrev St := List (E2 × List Int) × List E2
def addO (s : St) (o : E2 × Int) : St := (pt s.1 o.1 ((lk s.1 o.1).getD [] ++ [o.2]), if ((lk s.1 o.1).getD []).length = 0 then s.2 ++ [o.1] else s.2)
structure InvO (s : St) (os : List (E2 × Int)) : Prop where
 look : ∀ e, (lk s.1 e).getD [] = (os.filter fun o => o.1 = e).map (·.2)
 nodup : s.2.Nodup
 mem : ∀ e, e ∈ s.2 ↔ ∃ o ∈ os, o.1 = e
theorem invO_nil : InvO ([], []) [] := ⟨fun _ => rfl, List.nodup_nil, by simp⟩
theorem InvO.step {s : St} {os : List (E2 × Int)} (h : InvO s os) (o : E2 × Int) : InvO (addO s o) (os ++ [o]) := by
 have hz : ((lk s.1 o.1).getD []).length = 0 ↔ ¬ ∃ o' ∈ os, o'.1 = o.1 := by rw [h.look, List.length_map, List.length_eq_zero_iff, List.filter_eq_nil_iff];simp only [decide_eq_true_eq];exact ⟨fun q ⟨o', h1, h2⟩ => q o' h1 h2, fun q o' h1 h2 => q ⟨o', h1, h2⟩⟩
 refine ⟨fun e => ?_, ?_, fun e => ?_⟩
 ·simp only [addO, lk_pt, List.filter_append, List.map_append, List.filter_cons, List.filter_nil, decide_eq_true_eq]
  by_cases he : o.1 = e
  ·rw [if_pos he, if_pos he, ← h.look e, he]; rfl
  ·rw [if_neg he, if_neg he, h.look e]; simp
 ·simp only [addO]
  split
  ·rename_i hl
   rw [List.nodup_append];refine ⟨h.nodup, by simp, fun a ha b hb => ?_⟩
   simp only [List.mem_singleton] at hb
   rintro rfl
   subst hb;exact (hz.1 hl) ((h.mem _).1 ha)
  ·exact h.nodup
 ·simp only [addO, List.mem_append, List.mem_singleton]
  split
  ·rw [List.mem_append, h.mem, List.mem_singleton]
   constructor
   ·rintro (⟨o', h1, h2⟩ | rfl)
    ·exact ⟨o', .inl h1, h2⟩
    ·exact ⟨o, .inr rfl, rfl⟩
   ·rintro ⟨o', h1 | rfl, h2⟩
    ·exact .inl ⟨o', h1, h2⟩
    ·exact .inr h2.symm
  ·rename_i hl
   rw [h.mem]
   constructor
   ·rintro ⟨o', h1, h2⟩; exact ⟨o', .inl h1, h2⟩
   ·rintro ⟨o', h1 | rfl, h2⟩
    ·exact ⟨o', h1, h2⟩
    ·have : ∃ o'' ∈ os, o''.1 = o'.1 := Classical.byContradiction fun hn => hl (hz.2 hn)
     rw [← h2]; exact this
theorem InvO.fold : ∀ {os : List (E2 × Int)} {s : St} {os0 : List (E2 × Int)}, InvO s os0 → InvO (os.foldl addO s) (os0 ++ os)
 | [], _, _, h => by simpa using h
 | o :: os, s, os0, h => by have := (h.step o).fold (os := os);simpa using this
def byO (os : List (E2 × Int)) : St := os.foldl addO ([], [])
theorem byO_inv (os : List (E2 × Int)) : InvO (byO os) os := by
 have := invO_nil.fold (os := os)
 rwa [List.nil_append] at this
def byT (ts : List (List Int)) : St := byO (occN ts ts.length)
theorem occ_way (ts : List (List Int)) : ∀ i e, (∃ o ∈ occN ts i, o.1 = e) ↔ ∃ w ∈ wayN ts i, uW w = e
 | 0, e => by simp [occN, wayN]
 | i + 1, e => by
  have ih := occ_way ts i e;simp only [occN, wayN, List.mem_append, occT, List.mem_map]
  constructor
  ·rintro ⟨o, h | ⟨w, h1, rfl⟩, h2⟩
   ·obtain ⟨w, h3, h4⟩ := ih.1 ⟨o, h, h2⟩; exact ⟨w, .inl h3, h4⟩
   ·exact ⟨w, .inr h1, h2⟩
  ·rintro ⟨w, h | h, h2⟩
   ·obtain ⟨o, h3, h4⟩ := ih.2 ⟨w, h, h2⟩; exact ⟨o, .inl h3, h4⟩
   ·exact ⟨_, .inr ⟨w, h, rfl⟩, h2⟩
def seenP (ts : List (List Int)) (a b : Int) : Bool := decide ((a, b) ∈ (wayN ts ts.length).map uW)
def rowN (ts : List (List Int)) (a : Nat) : Nat → List E2
 | 0 => []
 | b + 1 => if a < b ∧ seenP ts a b = true then rowN ts a b ++ [((a : Int), (b : Int))] else rowN ts a b
def edgN (ts : List (List Int)) (n : Nat) : Nat → List E2
 | 0 => []
 | a + 1 => edgN ts n a ++ rowN ts a n
def edgL (ts : List (List Int)) (n : Nat) : List E2 := edgN ts n n
theorem rowN_mem (ts : List (List Int)) (a : Nat) : ∀ n e, e ∈ rowN ts a n ↔ ∃ b : Nat, b < n ∧ a < b ∧ seenP ts a b = true ∧ e = ((a : Int), (b : Int))
 | 0, e => by simp [rowN]
 | n + 1, e => by
  have ih := rowN_mem ts a n e;simp only [rowN];split
  ·rename_i hc
   rw [List.mem_append, ih, List.mem_singleton]
   constructor
   ·rintro (⟨b, h1, h2⟩ | rfl)
    ·exact ⟨b, by omega, h2⟩
    ·exact ⟨n, by omega, hc.1, hc.2, rfl⟩
   ·rintro ⟨b, h1, h2, h3, h4⟩
    rcases Nat.lt_succ_iff_lt_or_eq.1 h1 with h | rfl
    ·exact .inl ⟨b, h, h2, h3, h4⟩
    ·exact .inr h4
  ·rename_i hc
   rw [ih]
   constructor
   ·rintro ⟨b, h1, h2⟩; exact ⟨b, by omega, h2⟩
   ·rintro ⟨b, h1, h2, h3, h4⟩
    rcases Nat.lt_succ_iff_lt_or_eq.1 h1 with h | rfl
    ·exact ⟨b, h, h2, h3, h4⟩
    ·exact absurd ⟨h2, h3⟩ hc
theorem rowN_sorted (ts : List (List Int)) (a : Nat) : ∀ n, (rowN ts a n).Pairwise fun x y => ltE x y = true
 | 0 => List.Pairwise.nil
 | n + 1 => by
  simp only [rowN];split
  ·rw [List.pairwise_append]
   refine ⟨rowN_sorted ts a n, by simp, fun x hx y hy => ?_⟩
   obtain ⟨b, h1, _, _, rfl⟩ := (rowN_mem ts a n x).1 hx;simp only [List.mem_singleton] at hy;subst hy;rw [ltE_iff]; right; exact ⟨rfl, by simp only; omega⟩
  ·exact rowN_sorted ts a n
theorem edgN_mem (ts : List (List Int)) (n : Nat) : ∀ m e, e ∈ edgN ts n m ↔ ∃ a b : Nat, a < m ∧ b < n ∧ a < b ∧ seenP ts a b = true ∧ e = ((a : Int), (b : Int))
 | 0, e => by simp [edgN]
 | m + 1, e => by
  have ih := edgN_mem ts n m e;simp only [edgN, List.mem_append, ih, rowN_mem]
  constructor
  ·rintro (⟨a, b, h1, h2⟩ | ⟨b, h1, h2⟩)
   ·exact ⟨a, b, by omega, h2⟩
   ·exact ⟨m, b, by omega, h1, h2⟩
  ·rintro ⟨a, b, h1, h2⟩
   rcases Nat.lt_succ_iff_lt_or_eq.1 h1 with h | rfl
   ·exact .inl ⟨a, b, h, h2⟩
   ·exact .inr ⟨b, h2.1, h2.2⟩
theorem edgN_sorted (ts : List (List Int)) (n : Nat) : ∀ m, (edgN ts n m).Pairwise fun x y => ltE x y = true
 | 0 => List.Pairwise.nil
 | m + 1 => by
  simp only [edgN];rw [List.pairwise_append];refine ⟨edgN_sorted ts n m, rowN_sorted ts m n, fun x hx y hy => ?_⟩
  obtain ⟨a, b, h1, _, _, _, rfl⟩ := (edgN_mem ts n m x).1 hx;obtain ⟨b', _, _, _, rfl⟩ := (rowN_mem ts m n y).1 hy;rw [ltE_iff]; left; simp only; omega
theorem ltE_irrefl (x : E2) : ¬ ltE x x = true := by rw [ltE_iff]; omega
theorem sorted_nodup {l : List E2} (h : l.Pairwise fun x y => ltE x y = true) : l.Nodup := h.imp fun {a b} hab => by
 rintro rfl
 exact ltE_irrefl _ hab
theorem edgL_mem {n : Nat} {ts : List (List Int)} (h : TriOk n ts) (e : E2) : e ∈ edgL ts n ↔ ∃ w ∈ wayN ts ts.length, uW w = e := by
 unfold edgL
 rw [edgN_mem]
 have hw : ∀ i, i ≤ ts.length → ∀ w ∈ wayN ts i, w.1 ≠ w.2 ∧ (0 ≤ w.1 ∧ w.1 < n) ∧ (0 ≤ w.2 ∧ w.2 < (n : Int)) := by
  intro i
  induction i with
  | zero => intro _ w hw; simp [wayN] at hw
  | succ i ih =>
   intro hi w hw;simp only [wayN, List.mem_append] at hw
   rcases hw with hw | hw
   ·exact ih (by omega) w hw
   ·obtain ⟨x, y, z, ht, h1, h2, h3, h4, h5, h6⟩ := h.at (show i < ts.length by omega)
    rw [ht, wayT3] at hw;simp only [List.mem_cons, List.not_mem_nil, or_false] at hw
    rcases hw with rfl | rfl | rfl <;> simp only <;> omega
 constructor
 ·rintro ⟨a, b, h1, h2, h3, h4, rfl⟩
  unfold seenP at h4;simpa using h4
 ·rintro ⟨w, h1, rfl⟩
  have := hw _ (Nat.le_refl _) w h1;refine ⟨(min w.1 w.2).toNat, (max w.1 w.2).toNat, by omega, by omega, by omega, ?_, ?_⟩
  ·unfold seenP
   simp only [decide_eq_true_eq, List.mem_map];refine ⟨w, h1, ?_⟩;unfold uW uE;simp only [Prod.mk.injEq];omega
  ·unfold uW uE
   simp only [Prod.mk.injEq];omega
theorem sortE_perm (l : List E2) : (sortE l).Perm l := List.mergeSort_perm _ _
theorem sortE_sorted (l : List E2) : (sortE l).Pairwise fun x y => ltE y x = false := by
 have := List.pairwise_mergeSort (le := fun x y : E2 => !(ltE y x)) (fun a b c h1 h2 => by
  simp only [Bool.not_eq_true'] at *;exact swoE.ntrans c b a h2 h1) (fun a b => by
  simp only [Bool.or_eq_true, Bool.not_eq_true'];rw [ltE_false, ltE_false]
  omega) l
 exact this.imp fun h => by simpa using h
theorem sort_edges {n : Nat} {ts : List (List Int)} (h : TriOk n ts) : sortE (byT ts).2 = edgL ts n := by
 have hi := byO_inv (occN ts ts.length)
 have hp : (sortE (byT ts).2).Perm (edgL ts n) := by
  refine (sortE_perm _).trans ?_;refine (List.perm_ext_iff_of_nodup hi.nodup (sorted_nodup (edgN_sorted ts n n))).2 fun e => ?_
  rw [hi.mem, occ_way];exact (edgL_mem h e).symm
 refine hp.eq_of_pairwise (le := fun x y => ltE y x = false) ?_ (sortE_sorted _) ((edgN_sorted ts n n).imp fun {a b} hab => ?_)
 ·intro a b _ _ h1 h2
  exact partE a b h2 h1
 ·rw [ltE_iff] at hab
  rw [ltE_false];omega
end Vs
