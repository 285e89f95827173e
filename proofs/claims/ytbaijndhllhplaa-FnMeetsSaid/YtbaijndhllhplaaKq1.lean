/-
  Edges of meshes, ways of triangles, sheets: plain facts about lists.
-/
import Derived.Test.YtbaijndhllhplaaK9
import Derived.Test.YtbaijndhllhplaaNx1
set_option maxHeartbeats 4000000
namespace Vs
open Go Go.Sort
abbrev E2 := Int × Int
def uE (a b : Int) : E2 := (min a b, max a b)
theorem uE_iff {a b x y : Int} : uE x y = uE a b ↔ (x = a ∧ y = b) ∨ (x = b ∧ y = a) := by
 unfold uE
 simp only [Prod.mk.injEq]
 omega
def lk {β : Type} : List (E2 × β) → E2 → Option β
 | [], _ => none
 | kv :: r, e => if kv.1 = e then some kv.2 else lk r e
def pt {β : Type} : List (E2 × β) → E2 → β → List (E2 × β)
 | [], e, v => [(e, v)]
 | kv :: r, e, v => if kv.1 = e then (e, v) :: r else kv :: pt r e v
def ix {β : Type} : List (E2 × β) → E2 → Option Nat
 | [], _ => none
 | kv :: r, e => if kv.1 = e then some 0 else (ix r e).map (· + 1)
theorem lk_pt {β : Type} (e e' : E2) (v : β) : ∀ kvs : List (E2 × β), lk (pt kvs e v) e' = if e = e' then some v else lk kvs e'
 | [] => rfl
 | kv :: r => by
  have ih := lk_pt e e' v r;unfold pt
  by_cases h : kv.1 = e
  ·rw [if_pos h]
   simp only [lk]
   by_cases h2 : e = e'
   ·rw [if_pos h2, if_pos h2]
   ·rw [if_neg h2, if_neg h2, if_neg (by rw [h]; exact h2)]
  ·rw [if_neg h]
   simp only [lk];rw [ih]
   by_cases h2 : kv.1 = e'
   ·rw [if_pos h2, if_pos h2, if_neg (by rw [← h2]; exact fun q => h q.symm)]
   ·rw [if_neg h2, if_neg h2]
def wy (t : List Int) (k : Nat) : E2 := (t.getD k 0, t.getD ((k + 1) % 3) 0)
def uW (w : E2) : E2 := uE w.1 w.2
def TriOk (n : Int) (ts : List (List Int)) : Prop := ∀ t ∈ ts, ∃ x y z, t = [x, y, z] ∧ x ≠ y ∧ y ≠ z ∧ x ≠ z ∧ (0 ≤ x ∧ x < n) ∧ (0 ≤ y ∧ y < n) ∧ (0 ≤ z ∧ z < n)
theorem TriOk.at {n : Int} {ts : List (List Int)} (h : TriOk n ts) {i : Nat} (hi : i < ts.length) : ∃ x y z, ts.getD i [] = [x, y, z] ∧ x ≠ y ∧ y ≠ z ∧ x ≠ z ∧ (0 ≤ x ∧ x < n) ∧ (0 ≤ y ∧ y < n) ∧ (0 ≤ z ∧ z < n) := by
 rw [getD_lt hi]
 exact h _ (List.getElem_mem hi)
abbrev St := List (E2 × List Int) × List E2
def addO (s : St) (o : E2 × Int) : St := (pt s.1 o.1 ((lk s.1 o.1).getD [] ++ [o.2]), if ((lk s.1 o.1).getD []).length = 0 then s.2 ++ [o.1] else s.2)
structure InvO (s : St) (os : List (E2 × Int)) : Prop where
 look : ∀ e, (lk s.1 e).getD [] = (os.filter fun o => o.1 = e).map (·.2)
 nodup : s.2.Nodup
 mem : ∀ e, e ∈ s.2 ↔ ∃ o ∈ os, o.1 = e
theorem InvO.step {s : St} {os : List (E2 × Int)} (h : InvO s os) (o : E2 × Int) : InvO (addO s o) (os ++ [o]) := by
 have hz : ((lk s.1 o.1).getD []).length = 0 ↔ ¬ ∃ o' ∈ os, o'.1 = o.1 := by rw [h.look, List.length_map, List.length_eq_zero_iff, List.filter_eq_nil_iff];simp only [decide_eq_true_eq];exact ⟨fun q ⟨o', h1, h2⟩ => q o' h1 h2, fun q o' h1 h2 => q ⟨o', h1, h2⟩⟩
 refine ⟨fun e => ?_, ?_, fun e => ?_⟩
 ·simp only [addO, lk_pt, List.filter_append, List.map_append, List.filter_cons, List.filter_nil, decide_eq_true_eq]
  by_cases he : o.1 = e
  ·rw [if_pos he, if_pos he, ← h.look e, he]; rfl
  ·rw [if_neg he, if_neg he, h.look e]; simp
 ·simp only [addO]
  split
  ·rename_i hl
   rw [List.nodup_append];refine ⟨h.nodup, by simp, fun a ha b hb => ?_⟩
   simp only [List.mem_singleton] at hb
   rintro rfl
   subst hb;exact (hz.1 hl) ((h.mem _).1 ha)
  ·exact h.nodup
 ·simp only [addO, List.mem_append, List.mem_singleton]
  split
  ·rw [List.mem_append, h.mem, List.mem_singleton]
   constructor
   ·rintro (⟨o', h1, h2⟩ | rfl)
    ·exact ⟨o', .inl h1, h2⟩
    ·exact ⟨o, .inr rfl, rfl⟩
   ·rintro ⟨o', h1 | rfl, h2⟩
    ·exact .inl ⟨o', h1, h2⟩
    ·exact .inr h2.symm
  ·rename_i hl
   rw [h.mem]
   constructor
   ·rintro ⟨o', h1, h2⟩; exact ⟨o', .inl h1, h2⟩
   ·rintro ⟨o', h1 | rfl, h2⟩
    ·exact ⟨o', h1, h2⟩
    ·have : ∃ o'' ∈ os, o''.1 = o'.1 := Classical.byContradiction fun hn => hl (hz.2 hn)
     rw [← h2]; exact this
end Vs
