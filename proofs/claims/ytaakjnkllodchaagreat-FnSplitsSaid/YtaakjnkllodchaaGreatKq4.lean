/-
  An edge joined: the mesh stays valid; twins by sorted triples and by places.
-/
import Derived.Test.YtaakjnkllodchaaGreatK29
import Derived.Test.YtaakjnkllodchaaGreatK14
import Derived.Test.YtaakjnkllodchaaGreatNx2
set_option maxHeartbeats 4000000
namespace Vs
open Go Go.Sort
def jnP (a b x : Int) : Int := if (if x = b then a else x) > b then (if x = b then a else x) - 1 else (if x = b then a else x)
def joinT (ts : List (List Int)) (a b : Int) : List (List Int) := (ts.filter fun t => !hasB t a b).map fun t => t.map (jnP a b)
def joinV (vs : List V3) (b : Int) : List V3 := vs.take b.toNat ++ vs.drop (b.toNat + 1)
theorem jn_ne {a b x y : Int} (hab : a ≠ b) (hxy : x ≠ y) (h : ¬ ((x = a ∧ y = b) ∨ (x = b ∧ y = a))) : jnP a b x ≠ jnP a b y := by
 unfold jnP
 by_cases h1 : x = b <;> by_cases h2 : y = b <;> simp only [h1, h2, if_true, if_false] <;> repeat' split
 all_goals omega
theorem jn_rg {n a b x : Int} (ha : 0 ≤ a ∧ a < n) (hb : 0 ≤ b ∧ b < n) (hab : a ≠ b) (hx : 0 ≤ x ∧ x < n) : 0 ≤ jnP a b x ∧ jnP a b x < n - 1 := by
 unfold jnP
 by_cases h1 : x = b <;> simp only [h1, if_true, if_false] <;> split <;> omega
theorem sortI_perm (l : List Int) : (sortI l).Perm l := List.mergeSort_perm _ _
theorem sortI_eq {l m : List Int} : sortI l = sortI m ↔ l.Perm m := by
 constructor
 ·intro h
  exact (sortI_perm l).symm.trans (h ▸ sortI_perm m)
 ·intro h
  have hs : ∀ l : List Int, (sortI l).Pairwise fun x y => x ≤ y := fun l => by
   have := List.pairwise_mergeSort (le := fun x y : Int => decide (x ≤ y)) (fun a b c h1 h2 => by simp only [decide_eq_true_eq] at *; omega) (fun a b => by simp only [Bool.or_eq_true, decide_eq_true_eq]; omega) l
   exact this.imp fun h => by simpa using h
  exact ((sortI_perm l).trans (h.trans (sortI_perm m).symm)).eq_of_pairwise (le := fun x y => x ≤ y) (fun a b _ _ h1 h2 => by omega) (hs l) (hs m)
theorem join_tri {n : Int} {ts : List (List Int)} {a b : Int} (h : TriOk n ts) (ha : 0 ≤ a ∧ a < n) (hb : 0 ≤ b ∧ b < n) (hab : a ≠ b) : TriOk (n - 1) (joinT ts a b) := by
 intro t ht
 unfold joinT at ht
 obtain ⟨u, hu, rfl⟩ := List.mem_map.1 ht
 rw [List.mem_filter] at hu
 obtain ⟨x, y, z, rfl, h1, h2, h3, hx, hy, hz⟩ := h u hu.1
 have hh : ¬ ((a = x ∨ a = y ∨ a = z) ∧ (b = x ∨ b = y ∨ b = z)) := by
  have := hu.2;unfold hasB at this;intro hc;have e1 : [x, y, z].contains a = true := by simpa using hc.1
  have e2 : [x, y, z].contains b = true := by simpa using hc.2
  rw [e1, e2] at this;simp at this
 exact ⟨jnP a b x, jnP a b y, jnP a b z, rfl, jn_ne hab h1 (by omega), jn_ne hab h2 (by omega), jn_ne hab h3 (by omega), jn_rg ha hb hab hx, jn_rg ha hb hab hy, jn_rg ha hb hab hz⟩
theorem valid_of {n : Nat} {ts : List (List Int)} (h : TriOk n ts) (hn : n ≤ 64) (ht : ts.length ≤ 128) : validP n ts = true := by
 unfold validP
 rw [Bool.and_eq_true, Bool.and_eq_true, decide_eq_true_eq, decide_eq_true_eq, List.all_eq_true]
 refine ⟨⟨hn, ht⟩, fun t hm => ?_⟩
 obtain ⟨x, y, z, rfl, h1, h2, h3, hx, hy, hz⟩ := h t hm
 unfold triP inr
 simp only [List.all_cons, List.all_nil, Bool.and_true, Bool.and_eq_true, Bool.not_eq_true', beq_eq_false_iff_ne, decide_eq_true_eq]
 omega
theorem join_len (ts : List (List Int)) (a b : Int) : (joinT ts a b).length ≤ ts.length := by
 unfold joinT
 rw [List.length_map]
 exact List.length_filter_le _ _
theorem valid_join {n : Nat} {ts : List (List Int)} {a b : Int} (hv : validP n ts = true) (ha : 0 ≤ a ∧ a < n) (hb : 0 ≤ b ∧ b < n) (hab : a ≠ b) : validP (n - 1) (joinT ts a b) = true := by
 obtain ⟨hn, ht⟩ := valid_len hv
 have h := join_tri (triOk_of hv) ha hb hab
 refine valid_of ?_ (by omega) (Nat.le_trans (join_len ts a b) ht)
 have e : ((n - 1 : Nat) : Int) = (n : Int) - 1 := by omega
 rw [e]
 exact h
theorem joinV_len {vs : List V3} {b : Int} (hb : 0 ≤ b ∧ b < (vs.length : Int)) : (joinV vs b).length = vs.length - 1 := by
 unfold joinV
 simp only [List.length_append, List.length_take, List.length_drop]
 omega
def twinB (ts : List (List Int)) : Bool := !decide (ts.map sortI).Nodup
def usN (ts : List (List Int)) : Nat → Nat
 | 0 => 0
 | p + 1 => usN ts p + (if usedP ts p = true then 1 else 0)
def eulP (n : Nat) (ts : List (List Int)) : Int := (usN ts n : Int) - (edgL ts n).length + ts.length
theorem usN_le (ts : List (List Int)) : ∀ p, usN ts p ≤ p
 | 0 => Nat.le_refl _
 | p + 1 => by have := usN_le ts p;simp only [usN];split <;> omega
end Vs
