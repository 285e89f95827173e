/-
  One row of an own slice of own slices taken out by the library's Delete, in place.
-/
import Derived.Test.YtaakjnkllodchaaNx3
set_option maxHeartbeats 4000000
namespace Vs
open Go Go.RowKit Go.Proofs Go.Shelf Go.Sort
abbrev SlT := Option Addr × Nat × Nat
def encS (x : SlT) : Value := .slice x.1 x.2.1 x.2.2
theorem encS_of : ∀ {us : List Value}, (∀ u ∈ us, ∃ a n c, u = .slice a n c) → ∃ X : List SlT, us = X.map encS
 | [], _ => ⟨[], rfl⟩
 | u :: us, h => by
  obtain ⟨a, n, c, rfl⟩ := h u (by simp)
  obtain ⟨X, rfl⟩ := encS_of (us := us) (fun v hv => h v (List.mem_cons_of_mem _ hv))
  exact ⟨(a, n, c) :: X, rfl⟩
theorem Apart_sub {us vs : List Value} (h : Apart us) (hs : ∃ f : Nat → Nat, (∀ i j, f i = f j → i = j) ∧ ∀ (i : Nat) v, vs[i]? = some v → us[f i]? = some v) : Apart vs := by
 obtain ⟨f, hf, hg⟩ := hs
 intro i j u u' hi hj hij
 exact h (f i) (f j) u u' (hg i u hi) (hg j u' hj) (fun he => hij (hf i j he))
theorem cut_get {α : Type} {l : List α} {i : Nat} (hi : i < l.length) : ∀ (j : Nat) v, (l.take i ++ l.drop (i + 1))[j]? = some v → l[if j < i then j else j + 1]? = some v := by
 intro j v h
 split
 ·rename_i hj
  rw [List.getElem?_append_left (by simp; omega), List.getElem?_take_of_lt hj] at h
  exact h
 ·rename_i hj
  rw [List.getElem?_append_right (by simp; omega), List.getElem?_drop] at h
  rw [← h]
  congr 1
  simp;omega
theorem delete_rows {P : Program} {ρ : Ren} (L : SlLaysE.n45 P ρ) {e e' : TypeId} {et : ET} (v23 : ∀ w, (zeroValue (ρ.t 23)).run P w = .ok (.slice none 0 0) w) (i0 : TypeInfo) (hi0 : P.info? (ρ.t 23) = some i0) (hs0 : i0.size = 1) :
  SoundCall P (ρ.f 45) ⟨[.val false [.mt (.rows et e' e) false], .val false [.rd (.b (.int .i64))], .val false [.rd (.b (.int .i64))]], [(false, [.own (.rows et e' e)])]⟩ F440 where
 enter := L.f45.enters rfl
 calls := fun vs ds ms w rs F0 _ hargs _ hG => by
  match vs, hargs with
  | [], h => exact h.elim
  | [_], ⟨_, _, _, _, _, _, _, h⟩ => exact h.elim
  | [_, _], ⟨_, _, _, _, _, _, _, _, _, _, _, _, _, _, h⟩ => exact h.elim
  | _ :: _ :: _ :: _ :: _, ⟨_, _, _, _, _, _, _, _, _, _, _, _, _, _, _, _, _, _, _, _, _, h⟩ => exact h.elim
  | [v1, v2, v3], ha =>
   obtain ⟨d1, d2, m1, m2, rfl, rfl, h1, d3, d4, m3, m4, rfl, rfl, h2, d5, d6, m5, m6, rfl, rfl, h3', rfl, rfl⟩ := ha;obtain ⟨d, d2', m1', m2', rfl, rfl, ⟨m, rfl, rfl, ⟨h0, n, ls, hown, rfl, hn, hrd, hap, hout⟩, _⟩, rfl, rfl⟩ := h1;obtain ⟨_, _, _, _, rfl, rfl, ⟨rfl, a, rfl, rfl⟩, rfl, rfl⟩ := h2;obtain ⟨_, _, _, _, rfl, rfl, ⟨rfl, b, rfl, rfl⟩, rfl, rfl⟩ := h3';have hQ : (if b = a + 1 ∧ 0 ≤ a ∧ a < ((ls.map fun l => D.lst (l.map (unflat et.agg))).length : Int) ∧ (ls.map fun l => D.lst (l.map (unflat et.agg))).length ≤ 1048576 then some [D.lst ((ls.map fun l => D.lst (l.map (unflat et.agg))).take a.toNat ++ (ls.map fun l => D.lst (l.map (unflat et.agg))).drop (a.toNat + 1))] else none) = some rs := hG
   clear hG;split at hQ
   case isFalse => cases hQ
   rename_i hc;obtain ⟨rfl, ha0, han, _⟩ := hc;obtain rfl := Option.some.inj hQ;rw [List.length_map] at han;obtain ⟨i, rfl⟩ : ∃ i : Nat, a = i := ⟨a.toNat, by omega⟩
   rw [Int.toNat_natCast];have hin : i < n := by omega
   have hxl := hrd.1;obtain ⟨X, hX⟩ : ∃ X : List SlT, m.inner = X.map encS := encS_of fun u hu => by
    obtain ⟨k, hk, rfl⟩ := List.mem_iff_getElem.1 hu;obtain ⟨nn, xs, ho, _⟩ := hrd.2 k _ _ (List.getElem?_eq_getElem hk) (List.getElem?_eq_getElem (by omega))
    obtain ⟨aa, cc, h⟩ := ownsRow_slice ho;exact ⟨aa, _, cc, h⟩
   have hXl : X.length = n := by rw [← hn, ← hxl, hX, List.length_map]
   rcases hown.2 with ⟨_, hn0⟩ | ⟨g0, cap, cur, hv, _, hheap, hnc, hcm, hcs, htake⟩
   ·omega
   ·rw [Nat.mul_one] at hcs htake
    have hlt : g0 < w.heap.size := by
     rcases Nat.lt_or_ge g0 w.heap.size with h' | h'
     ·exact h'
     ·rw [Array.getElem?_eq_none h'] at hheap; cases hheap
    have hcur : ∀ t, t < n → cur[t]? = m.inner[t]? := fun t ht => by rw [← htake, List.getElem?_take, if_pos ht, Array.getElem?_toList]
    have hH : Holds encS w g0 0 X.toArray := by
     intro t ht;have ht' : t < n := by simp at ht; omega
     refine ⟨?_, by simp [World.frozen?, hheap]⟩
     rw [cell_of_cells hheap, Nat.zero_add, hcur t ht', hX, List.getElem?_map, getElem!_pos _ t ht, List.getElem?_eq_getElem (by simpa using ht)]
     simp
    have hcon := AnyE.slices_Delete L encS (fun _ => rfl) (none, 0, 0) v23 i0 hi0 hs0 g0 0 cap i (i + 1) X.toArray w hH (by simp; omega) (Nat.le_trans hcm (by decide)) (by omega) (by simp; omega)
    rw [show X.toArray.size = n by simpa using hXl] at hcon
    rw [hv, show ((i : Int) + 1) = ((i + 1 : Nat) : Int) by omega]
    refine hcon.mono ?_
    rintro e1 w' ⟨rfl, q, rfl⟩
    have hxs : X.toArray.toList = X := rfl;rw [hxs, show i + 1 - i = 1 by omega]
    obtain ⟨N, hN⟩ : ∃ N, N = X.take i ++ X.drop (i + 1) ++ List.replicate 1 ((none, 0, 0) : SlT) := ⟨_, rfl⟩;rw [← hN];have hnl : N.length = n := by rw [hN];simp only [List.length_append, List.length_take, List.length_drop, List.length_replicate]; omega
    have hbl : (putRow encS (Sort.ahead w q) g0 0 N.toArray).heap[g0]? = some (.cells (putCells encS 0 N.toArray cur) e (0, 0)) := by simp [putRow, mapBlock, Sort.ahead, Array.getElem?_modify, hheap, onCells]
    have hoth : ∀ k, k ≠ g0 → (putRow encS (Sort.ahead w q) g0 0 N.toArray).heap[k]? = w.heap[k]? := fun k hk => by simp [putRow, mapBlock, Sort.ahead, Array.getElem?_modify, Ne.symm hk]
    have hmi : m.inner.take i ++ m.inner.drop (i + 1) = (X.take i ++ X.drop (i + 1)).map encS := by rw [hX, List.map_append, List.map_take, List.map_drop]
    have hown' : (putRow encS (Sort.ahead w q) g0 0 N.toArray).ownsRow 0 e 1 (.slice (some ⟨g0, 0, none⟩) (n - 1) cap) (n - 1) (m.inner.take i ++ m.inner.drop (i + 1)) := by
     refine ⟨by simp only [List.length_append, List.length_take, List.length_drop]; omega, .inr ⟨g0, cap, _, rfl, Nat.zero_le _, hbl, by omega, hcm, by simpa [putCells] using hcs, ?_⟩⟩
     rw [hmi];apply List.ext_getElem?;intro t;rw [Nat.mul_one]
     by_cases ht : t < n - 1
     ·rw [List.getElem?_take_of_lt ht, Array.getElem?_toList]
      have k1 : t < cur.size := by rw [hcs]; omega
      simp only [putCells, Array.getElem?_mapIdx, Array.getElem?_eq_getElem k1, Option.map_some];rw [if_pos ⟨Nat.zero_le _, by simp only [List.size_toArray, hnl]; omega⟩, Nat.sub_zero, getElem!_pos _ t (by simp only [List.size_toArray, hnl]; omega), List.getElem?_map]
      have e0 : (X.take i ++ X.drop (i + 1))[t]? = N[t]? := by rw [hN, List.getElem?_append_left (l₂ := List.replicate 1 _) (by simp only [List.length_append, List.length_take, List.length_drop]; omega)]
      rw [e0, List.getElem?_eq_getElem (by rw [hnl]; omega)]
      rfl
     ·rw [List.getElem?_take_eq_none (by omega), List.getElem?_eq_none]
      simp only [List.length_map, List.length_append, List.length_take, List.length_drop]; omega
    have hblk : ∀ u ∈ m.inner, ∀ b, blkOf u = some b → b ≠ g0 := fun u hu b hb he => hout u hu b hb (by rw [hv, he]; rfl)
    have hsub : ∀ u ∈ m.inner.take i ++ m.inner.drop (i + 1), u ∈ m.inner := fun u hu => by
     rcases List.mem_append.1 hu with h | h
     ·exact List.mem_of_mem_take h
     ·exact List.mem_of_mem_drop h
    have hr' : RowsD (putRow encS (Sort.ahead w q) g0 0 N.toArray) et e' (m.inner.take i ++ m.inner.drop (i + 1)) (ls.take i ++ ls.drop (i + 1)) := by
     refine RowsD.kept (w := w) ⟨by simp only [List.length_append, List.length_take, List.length_drop]; omega, fun j u l hu hl => ?_⟩ fun u hu b hb => hoth b (hblk u (hsub u hu) b hb)
     exact hrd.2 _ u l (cut_get (by omega) j u hu) (cut_get (by omega) j l hl)
    have hap' : Apart (m.inner.take i ++ m.inner.drop (i + 1)) := Apart_sub hap ⟨fun j => if j < i then j else j + 1, fun a b h => by
     simp only at h
     split at h <;> split at h <;> omega, cut_get (by omega)⟩
    refine ⟨_, rfl, ⟨rfl, rfl, rfl, by simp [putRow, mapBlock, Sort.ahead], fun k hk hm => ?_, Nat.le_add_right _ _⟩, ?_⟩
    ·exact hoth k fun e0 => hm ⟨_, List.mem_singleton.2 rfl, .inl (by rw [hv, e0]; rfl)⟩
    ·refine ⟨[_], [⟨.slice (some ⟨g0, 0, none⟩) (n - 1) cap, [m.inner.take i ++ m.inner.drop (i + 1)]⟩], [], [_], [], rfl, rfl, ?_, ⟨rfl, rfl⟩, fun u hu c hc => .inr ⟨_, List.mem_singleton.2 rfl, ?_⟩, fun x y _ _ hx hy hne => ?_⟩
     ·refine ⟨[_], [], [_], [], rfl, rfl, ⟨rfl, rfl, ⟨rfl, n - 1, ls.take i ++ ls.drop (i + 1), hown', ?_, ?_, hr', hap', fun u hu b hb => ?_⟩, trivial⟩, rfl, rfl⟩
      ·unfold rowsDat
       rw [List.map_append, List.map_take, List.map_drop]
      ·simp only [List.length_append, List.length_take, List.length_drop]; omega
      ·intro he
       exact hblk u (hsub u hu) b hb (Option.some.inj he).symm
     ·simp only [List.append_nil, List.mem_singleton] at hu
      subst hu
      rcases hc with hc | hc
      ·exact .inl (by rw [hv]; exact hc)
      ·obtain ⟨u, hu, hb⟩ := hc
       exact .inr ⟨u, hsub u hu, hb⟩
     ·have hx' := (List.getElem?_eq_some_iff.1 hx).1
      have hy' := (List.getElem?_eq_some_iff.1 hy).1;simp at hx' hy'; omega
end Vs
