/-
  Whole numbers sorted by the library's Sort: the kit's contract, turned into ours.
-/
import Derived.Test.YtaakjnkllodchaaGreatNx1
import Derived.Shelf.SortG.Plain
import Derived.Shelf.SortG.SortNone
set_option maxHeartbeats 4000000
namespace Vs
open Go Go.RowKit Go.Proofs Go.Shelf Go.Sort
def eI1 : ET := ⟨false, [.int .i64]⟩
def inOf : List D → Option (List Int)
 | [] => some []
 | .int a :: r => (inOf r).map (a :: ·)
 | _ => none
def sortI (l : List Int) : List Int := l.mergeSort fun x y => decide (x ≤ y)
def F405 : List D → Option (List D)
 | [.lst l] => (inOf l).bind fun es => if es.length ≤ 1048576 then some [.lst ((sortI es).map D.int)] else none
 | _ => none
theorem inOf_int : ∀ (es : List Int), inOf (es.map D.int) = some es
 | [] => rfl
 | x :: es => by simp [inOf, inOf_int es]
theorem F405_of {l : List D} {es : List Int} (h : inOf l = some es) : F405 [.lst l] = if es.length ≤ 1048576 then some [.lst ((sortI es).map D.int)] else none := by
 show (inOf l).bind _ = _
 rw [h]
 rfl
theorem ints_of : ∀ {ls : List (List D)} {xs : List Value}, RdRow RdB [.int .i64] xs ls → ∃ es : List Int, inOf (ls.map (unflat false)) = some es ∧ xs = es.map (Value.int .i64) ∧ es.length = ls.length
 | [], xs, h => ⟨[], rfl, by simpa [RdRow] using h, rfl⟩
 | l :: ls, xs, ⟨c, r, e, h1, h2⟩ => by
  obtain ⟨es, i1, i2, i3⟩ := ints_of h2
  match c, l, h1 with
  | [v1], [d1], h1 =>
   obtain ⟨⟨n1, rfl, rfl⟩, _⟩ := h1;refine ⟨n1 :: es, ?_, ?_, by simp [i3]⟩
   ·simp [unflat, inOf, i1]
   ·rw [e, i2]; rfl
  | [], _, h => exact (by cases l <;> exact h.elim)
  | [_], [], h => exact h.elim
  | [_], _ :: _ :: _, ⟨_, h⟩ => exact h.elim
  | _ :: _ :: _, [], h => exact h.elim
  | _ :: _ :: _, _ :: _, ⟨_, h⟩ => exact (by cases ‹List D› <;> exact h.elim)
theorem row_ints : ∀ (es : List Int), RdRow RdB [.int .i64] (es.map (Value.int .i64)) (es.map fun x => [D.int x])
 | [] => rfl
 | x :: es => ⟨[.int .i64 x], es.map (Value.int .i64), rfl, ⟨⟨_, rfl, rfl⟩, trivial⟩, row_ints es⟩
theorem sort_sound {P : Program} {ρ : Ren} (L : SlLaysN.n53 P ρ) {e : TypeId} :
  SoundCall P (ρ.f 53) ⟨[.val false [.mt (.row (.s1 eI1) e) true]], []⟩ F405 where
 enter := L.f53.enters rfl
 calls := fun vs ds ms w rs F0 _ hargs _ hG => by
  match vs, hargs with
  | [], h => exact h.elim
  | _ :: _ :: _, ⟨_, _, _, _, _, _, _, h⟩ => exact h.elim
  | [v1], ha =>
   obtain ⟨d1, d2, m1, m2, rfl, rfl, h1, rfl, rfl⟩ := ha;obtain ⟨d, d2', m1', m2', rfl, rfl, ⟨m, rfl, rfl, ⟨h0, n, xs, ls, hown, rfl, hn, hrd⟩, _⟩, rfl, rfl⟩ := h1;obtain ⟨es, hes, rfl, hel⟩ := ints_of hrd;have hrs : es.length ≤ 1048576 ∧ rs = [.lst ((sortI es).map D.int)] := by
    have := (F405_of hes).symm.trans hG;split at this
    ·rename_i hl
     exact ⟨hl, (Option.some.inj this).symm⟩
    ·cases this
   obtain ⟨hel0, hrs⟩ := hrs;subst hrs;have hsl : (sortI es).length = es.length := List.length_mergeSort _;have hkept : ∀ {w' : World}, w'.ownsRow 0 e 1 m.v n ((sortI es).map (Value.int .i64)) → ResR w.heap.size F0 w' [⟨m, .row (.s1 eI1) e, true⟩] [] (.tuple #[]) [.lst ((sortI es).map D.int)] := by
    intro w' ho;refine ⟨[], [], [m], [], [.lst ((sortI es).map D.int)], rfl, rfl, ⟨rfl, rfl⟩, ?_, fun u hu b hb => .inr ⟨_, List.mem_singleton.2 rfl, ?_⟩, fun i j a b hi hj hne => ?_⟩
    ·unfold KeptR
     rw [if_pos rfl];refine ⟨_, [], m, [], rfl, rfl, rfl, ⟨h0, n, _, (sortI es).map fun (x : Int) => [D.int x], ho, ?_, by rw [List.length_map, hsl, hel, hn], row_ints (sortI es)⟩, rfl, rfl⟩
     rw [List.map_map];rfl
    ·simp only [List.nil_append, List.mem_singleton] at hu; subst hu; exact hb
    ·have hi' := (List.getElem?_eq_some_iff.1 hi).1
     have hj' := (List.getElem?_eq_some_iff.1 hj).1;simp at hi' hj'; omega
   rcases hown.2 with ⟨hv, hn0⟩ | ⟨g0, cap, cur, hv, _, hheap, hnc, hcm, hcs, htake⟩
   ·have hes0 : es = [] := List.eq_nil_of_length_eq_zero (by omega)
    subst hes0;rw [hv];refine (AnyG.slices_Sort_int_none L none 0 w).mono ?_
    rintro e' w' ⟨rfl, rfl⟩
    exact ⟨_, rfl, Keeps.refl _ _, hkept ⟨by simp [sortI, hn0], .inl ⟨hv, hn0⟩⟩⟩
   ·have hlt : g0 < w.heap.size := by
     rcases Nat.lt_or_ge g0 w.heap.size with h' | h'
     ·exact h'
     ·rw [Array.getElem?_eq_none h'] at hheap; cases hheap
    have hne : es.length = n := by omega
    have hcur : ∀ j, j < n → cur[j]? = (es.map (Value.int .i64))[j]? := fun j hj => by rw [← htake, List.getElem?_take, if_pos (by simpa [rowSz, eI1] using hj), Array.getElem?_toList]
    have hH : Holds (Value.int .i64) w g0 0 es.toArray := by
     intro j hj;have hj' : j < n := by simpa [hne] using hj
     refine ⟨?_, by simp [World.frozen?, hheap]⟩
     rw [cell_of_cells hheap, Nat.zero_add, hcur j hj', List.getElem?_map, List.getElem?_eq_getElem (by omega)]
     rw [getElem!_pos _ j hj];rfl
    have hcon := AnyG.slices_Sort_int L g0 0 cap es w hH hlt (by omega)
    rw [hv];rw [hne] at hcon;refine hcon.mono ?_
    rintro e' w' ⟨rfl, q, os, rfl⟩
    have hso : (es.mergeSort fun x y => decide (x ≤ y)) = sortI es := rfl
    rw [hso];have hbl : (grow (putRow (Value.int .i64) (Sort.ahead w q) g0 0 (sortI es).toArray) os).heap[g0]? = some (.cells (putCells (Value.int .i64) 0 (sortI es).toArray cur) e (0, 0)) := by
     rw [heap_grow_old _ _ (by simpa using hlt)]
     simp [putRow, mapBlock, Sort.ahead, Array.getElem?_modify, hheap, onCells]
    refine ⟨_, rfl, ⟨rfl, rfl, rfl, by simp [grow], fun k hk hm => ?_, Nat.le_add_right _ _⟩, hkept ⟨?_, .inr ⟨g0, cap, _, hv, Nat.zero_le _, hbl, hnc, hcm, ?_, ?_⟩⟩⟩
    ·rw [heap_grow_old _ _ (by simpa using hk)]
     have : g0 ≠ k := fun e0 => hm ⟨_, List.mem_singleton.2 rfl, .inl (by rw [hv, ← e0]; rfl)⟩
     simp [putRow, mapBlock, Sort.ahead, Array.getElem?_modify, this]
    ·rw [List.length_map, hsl, hne]; simp
    ·simpa [putCells, rowSz, eI1] using hcs
    ·apply List.ext_getElem?
     intro j
     by_cases hj : j < n
     ·rw [List.getElem?_take_of_lt (by simpa using hj), Array.getElem?_toList]
      have h1 : j < cur.size := by rw [hcs]; simp only [rowSz, eI1, List.length_cons, List.length_nil]; omega
      have h2 : j < (sortI es).toArray.size := by simp [hsl, hne]; omega
      simp only [putCells, Array.getElem?_mapIdx, Array.getElem?_eq_getElem h1, Option.map_some];rw [if_pos ⟨Nat.zero_le _, by omega⟩, List.getElem?_map, List.getElem?_eq_getElem (by simpa using h2), Option.map_some]
      congr 2
      rw [getElem!_pos _ _ (by simpa using h2)]
      simp
     ·rw [List.getElem?_take_eq_none (by simp; omega), List.getElem?_eq_none]
      simp [hsl, hne]; omega
end Vs
