/-
  One of a slice of elements of three like cells taken out by the library's Delete, in place.
-/
import Derived.Test.YtaakjnkllodchaaGreatNx2
import Derived.Shelf.SlLaysE0
import Derived.Shelf.SlicesE.Delete
set_option maxHeartbeats 4000000
namespace Go.Proofs
open Go.Shelf Go.RowKit Go.Lib Go.Sort
variable {P : Program} {ρ : Ren}
theorem zeroCells3 (z0 : Value) (n : Nat) : (Builtin.zeroCells #[z0, z0, z0] n).toList = List.replicate (n * 3) z0 := by
 unfold Builtin.zeroCells
 apply List.ext_getElem
 ·simp
 ·intro i h1 h2
  have h : i % 3 = 0 ∨ i % 3 = 1 ∨ i % 3 = 2 := by omega
  rcases h with h | h | h <;> simp [h]
theorem run_clear_slice3 (w : World) (t e ty : TypeId) (z z0 : Value) (b o n c : Nat) (ht : P.underlying t = some (.slice e)) (hv : ∀ w, (zeroValue e).run P w = .ok z w) (hz : z.cells = #[z0, z0, z0]) (h1 : z0.oneCell' = true) (hn : 0 < n)
  (hc : ∀ j, j < n * 3 → (w.cell? ⟨b, o + j, none⟩).isSome = true) (hf : ∀ j, j < n * 3 → w.frozen? ⟨b, o + j, none⟩ = false) :
  (Builtin.clear_ #[t] ty #[.slice (some ⟨b, o, none⟩) n c]).run P w = .ok (.tuple #[]) (w.setCells b o (List.replicate (n * 3) z0)) := by
 have hst := run_storeCells_cells (P := P) b o (List.replicate (n * 3) z0) 0 w (by simpa using hc) (by simpa using hf) (by intro v hv'; rw [List.eq_of_mem_replicate hv']; exact h1)
 simp only [Nat.add_zero] at hst
 have hzc := zeroCells3 z0 n
 obtain ⟨m, rfl⟩ : ∃ m, n = m + 1 := ⟨n - 1, by omega⟩
 simp [Builtin.clear_, run_underlying ht, hv, hz, hzc, hst]
set_option maxRecDepth 1000000 in
theorem delete3 (L : SlLaysE0.n45 P ρ) (z23 : ∀ w, (Go.sizeOf (ρ.t 23)).run P w = .ok 3 w) (z z0 : Value) (v23 : ∀ w, (zeroValue (ρ.t 23)).run P w = .ok z w) (hz3 : z.cells = #[z0, z0, z0]) (hz1 : z0.oneCell' = true)
  (i0 : TypeInfo) (hi0 : P.info? (ρ.t 23) = some i0) (hs0 : i0.size = 3) (blk off cap n i : Nat) (F : Array Value) (w : World) (hF : F.size = n * 3) (hF1 : ∀ u ∈ F.toList, u.oneCell' = true) (hH : Holds id w blk off F) (hcap : n ≤ cap) (_ : cap ≤ 9223372036854775807) (hj : i + 1 ≤ n) :
  Calls P (ρ.f 45) #[.slice (some ⟨blk, off, none⟩) n cap, .int .i64 i, .int .i64 (i + 1 : Nat)] w fun e w' => e = .returned (.slice (some ⟨blk, off, none⟩) (n - 1) cap) ∧ ∃ q, w' = putRow id (Sort.ahead w q) blk off (F.toList.take (i * 3) ++ F.toList.drop ((i + 1) * 3) ++ List.replicate 3 z0).toArray := by
 have mixed := L.mixed; have t0 := L.t0; have a0 := L.a0; have z0' := L.z0; have v0 := L.v0; have t3 := L.t3; have a3 := L.a3; have z3 := L.z3; have v3 := L.v3; have t4 := L.t4; have a4 := L.a4; have z4 := L.z4; have v4 := L.v4; have t22 := L.t22; have a22 := L.a22; have z22 := L.z22; have v22 := L.v22
 obtain ⟨j, hji⟩ : ∃ j, j = i + 1 := ⟨_, rfl⟩
 rw [← hji] at hj ⊢
 have hlt : i < j := by omega
 have hic : i ≤ cap := by omega
 have hjc : j ≤ cap := by omega
 have heq : ¬ i = j := by omega
 obtain ⟨news, hnews⟩ : ∃ news, news = F.toList.drop (j * 3) := ⟨_, rfl⟩
 have hlen : news.length = (n - j) * 3 := by rw [hnews]; simp only [List.length_drop, Array.length_toList, hF]; omega
 have hget : ∀ t u, news[t]? = some u → F[j * 3 + t]? = some u := by intro t u hu;rwa [hnews, List.getElem?_drop, Array.getElem?_toList] at hu
 obtain ⟨A, hA, hsrc⟩ : ∃ A : Addr, (if cap = j then some (⟨blk, off, none⟩ : Addr) else some ⟨blk, off + j * 3, none⟩) = some A ∧ Hid (∀ t u, news[t]? = some u → w.drew.cell? (A.add t) = some u) := by
  by_cases h : cap = j
  ·refine ⟨⟨blk, off, none⟩, by simp [h], fun t u hu => ?_⟩
   have h0 : news.length = 0 := by rw [hlen]; omega
   rw [List.length_eq_zero_iff.1 h0] at hu;simp at hu
  ·refine ⟨⟨blk, off + j * 3, none⟩, by simp [h], fun t u hu => ?_⟩
   have ht := hget t u hu;have hlt2 := (Array.getElem?_eq_some_iff.1 ht).1;have he := (Array.getElem?_eq_some_iff.1 ht).2;rw [Addr.add_lit, show off + j * 3 + t = off + (j * 3 + t) by omega]
   refine (hH (j * 3 + t) hlt2).1.trans ?_;rw [getElem!_pos F _ hlt2, he];rfl
 have s2 : Hid (∀ u ∈ news, u.oneCell' = true) := by intro u hu;rw [hnews] at hu;exact hF1 u (List.mem_of_mem_drop hu)
 have s3 : Hid (∀ t, t < news.length → (w.drew.cell? ⟨blk, off + i * 3 + t, none⟩).isSome = true ∧ w.drew.frozen? ⟨blk, off + i * 3 + t, none⟩ = false) := by intro t ht;rw [hlen] at ht;rw [Nat.add_assoc];exact ⟨by show (w.cell? _).isSome = true; rw [(hH (i * 3 + t) (by omega)).1]; rfl, (hH (i * 3 + t) (by omega)).2⟩
 obtain ⟨W1, hW1⟩ : ∃ W1, W1 = w.drew.setCells blk (off + i * 3) news := ⟨_, rfl⟩
 have hW1' : W1 = putRow id (Sort.ahead w 1) blk off (lay F (i * 3) news) := by
  rw [hW1, ← putRow_setCells id (Sort.ahead w 1) blk off news F (i * 3) (by rw [hlen]; omega), putRow_self id (Sort.ahead w 1) blk off F (holds_ahead id w 1 blk off F hH), List.map_id]
  rfl
 have hH1 : Holds id W1 blk off (lay F (i * 3) news) := by rw [hW1']; exact holds_putRow id _ blk off F _ (holds_ahead id w 1 blk off F hH) (lay_size _ _ _)
 have hn1 : n - (i + (n - j)) = 1 := by omega
 have hcl : ∀ ty, (Builtin.clear_ #[ρ.t 22] ty #[.slice (some ⟨blk, off + (i + (n - j)) * 3, none⟩) (n - (i + (n - j))) (cap - (i + (n - j)))]).run P W1 = .ok (.tuple #[]) (W1.setCells blk (off + (i + (n - j)) * 3) (List.replicate ((n - (i + (n - j))) * 3) z0)) :=
  fun ty => run_clear_slice3 W1 _ _ ty z z0 blk (off + (i + (n - j)) * 3) _ _ t22 v23 hz3 hz1 (by omega) (fun t ht => by rw [show off + (i + (n - j)) * 3 + t = off + ((i + (n - j)) * 3 + t) by omega, (hH1 _ (by rw [lay_size]; omega)).1]; rfl) (fun t ht => by rw [show off + (i + (n - j)) * 3 + t = off + ((i + (n - j)) * 3 + t) by omega]; exact (hH1 _ (by rw [lay_size]; omega)).2)
 have X : Aside (W1 = putRow id (Sort.ahead w 1) blk off (lay F (i * 3) news)) := hW1'
 have hW : Hid (W1 = w.drew.setCells blk (off + i * 3) news) := hW1
 have Y : Aside (news = F.toList.drop (j * 3)) := hnews
 have s1 : Hid (news.length = (n - j) * 3) := hlen
 have J : Aside (j = i + 1) := hji
 clear hW1 hW1' hH1 hH hget hnews hlen hn1 hji
 obtain ⟨_, _, FG⟩ := L.f45
 go_enter FG, SlBodyN.n45_ntmps ρ
 go_wp2_with fail
 go_region_law_o (refine step_append_room rfl (.tmp 22) (.tmp 25) (ρ.t 22) rfl (ρ.t 23) i0 3 t22 hi0 hs0 blk off i cap (by simp [Act.eval, Act.put]) A (n - j) (cap - j) news (by simp [Act.eval, Act.put]) s1.out hsrc.out s2.out (by omega) s3.out ?_; rw [← hW.out])
 go_wp2
 go_ret
 have hji := J.out
 refine ⟨by rw [show n - 1 = i + (n - j) by omega]; rfl, 1, ?_⟩
 have hd := delete_arr F (i * 3) (j * 3) z0 (by omega) (by omega)
 rw [show j * 3 - i * 3 = 3 by omega] at hd
 rw [← hd, ← putRow_setCells id _ blk off _ _ (i * 3 + (F.size - j * 3)) (by rw [lay_size]; simp; omega), ← Y.out, ← X.out, List.map_replicate, show (n - (i + (n - j))) * 3 = 3 by omega, show off + (i + (n - j)) * 3 = off + (i * 3 + (F.size - j * 3)) by omega]
 rfl
end Go.Proofs
namespace Vs
open Go Go.RowKit Go.Proofs Go.Shelf Go.Sort
def F440 : List D → Option (List D)
 | [.lst l, .int i, .int j] => if j = i + 1 ∧ 0 ≤ i ∧ i < l.length ∧ l.length ≤ 1048576 then some [.lst (l.take i.toNat ++ l.drop (i.toNat + 1))] else none
 | _ => none
theorem delete_sound {P : Program} {ρ : Ren} (L : SlLaysE0.n45 P ρ) {e : TypeId} {et : ET} (h3 : et.cells.length = 3) (z23 : ∀ w, (Go.sizeOf (ρ.t 23)).run P w = .ok 3 w) (z z0 : Value) (v23 : ∀ w, (zeroValue (ρ.t 23)).run P w = .ok z w)
  (hz3 : z.cells = #[z0, z0, z0]) (hz1 : z0.oneCell' = true) (i0 : TypeInfo) (hi0 : P.info? (ρ.t 23) = some i0) (hs0 : i0.size = 3) :
  SoundCall P (ρ.f 45) ⟨[.val false [.mt (.row (.s1 et) e) false], .val false [.rd (.b (.int .i64))], .val false [.rd (.b (.int .i64))]], [(false, [.own (.row (.s1 et) e)])]⟩ F440 where
 enter := L.f45.enters rfl
 calls := fun vs ds ms w rs F0 _ hargs _ hG => by
  match vs, hargs with
  | [], h => exact h.elim
  | [_], ⟨_, _, _, _, _, _, _, h⟩ => exact h.elim
  | [_, _], ⟨_, _, _, _, _, _, _, _, _, _, _, _, _, _, h⟩ => exact h.elim
  | _ :: _ :: _ :: _ :: _, ⟨_, _, _, _, _, _, _, _, _, _, _, _, _, _, _, _, _, _, _, _, _, h⟩ => exact h.elim
  | [v1, v2, v3], ha =>
   obtain ⟨d1, d2, m1, m2, rfl, rfl, h1, d3, d4, m3, m4, rfl, rfl, h2, d5, d6, m5, m6, rfl, rfl, h3', rfl, rfl⟩ := ha;obtain ⟨d, d2', m1', m2', rfl, rfl, ⟨m, rfl, rfl, ⟨h0, n, xs, ls, hown, rfl, hn, hrd⟩, _⟩, rfl, rfl⟩ := h1;obtain ⟨_, _, _, _, rfl, rfl, ⟨rfl, a, rfl, rfl⟩, rfl, rfl⟩ := h2;obtain ⟨_, _, _, _, rfl, rfl, ⟨rfl, b, rfl, rfl⟩, rfl, rfl⟩ := h3';have hQ : (if b = a + 1 ∧ 0 ≤ a ∧ a < ((ls.map (unflat et.agg)).length : Int) ∧ (ls.map (unflat et.agg)).length ≤ 1048576 then some [D.lst ((ls.map (unflat et.agg)).take a.toNat ++ (ls.map (unflat et.agg)).drop (a.toNat + 1))] else none) = some rs := hG
   clear hG;split at hQ
   case isFalse => cases hQ
   rename_i hc;obtain ⟨rfl, ha0, han, _⟩ := hc;obtain rfl := Option.some.inj hQ;rw [List.length_map] at han;obtain ⟨i, rfl⟩ : ∃ i : Nat, a = i := ⟨a.toNat, by omega⟩
   rw [Int.toNat_natCast];have hin : i < n := by omega
   have hrd : RdRow RdB et.cells xs ls := hrd;have hxl := hrd.length;rw [h3] at hxl
   rcases hown.2 with ⟨_, hn0⟩ | ⟨g0, cap, cur, hv, _, hheap, hnc, hcm, hcs, htake⟩
   ·omega
   ·have hsz3 : rowSz (.s1 et) = 3 := h3
    rw [hsz3] at hcs htake;have hlt : g0 < w.heap.size := by
     rcases Nat.lt_or_ge g0 w.heap.size with h' | h'
     ·exact h'
     ·rw [Array.getElem?_eq_none h'] at hheap; cases hheap
    have hcur : ∀ t, t < n * 3 → cur[t]? = xs[t]? := fun t ht => by rw [← htake, List.getElem?_take, if_pos ht, Array.getElem?_toList]
    have hH : Holds id w g0 0 xs.toArray := by
     intro t ht;have ht' : t < n * 3 := by simp at ht; omega
     refine ⟨?_, by simp [World.frozen?, hheap]⟩
     rw [cell_of_cells hheap, Nat.zero_add, hcur t ht', getElem!_pos _ t ht, List.getElem?_eq_getElem (by simpa using ht)]
     simp
    have hcon := delete3 L z23 z z0 v23 hz3 hz1 i0 hi0 hs0 g0 0 cap n i xs.toArray w (by simp; omega) (fun u hu => RdRow_one hrd u (by simpa using hu)) hH hnc (Nat.le_trans hcm (by decide)) (by omega)
    rw [hv, show ((i : Int) + 1) = ((i + 1 : Nat) : Int) by omega]
    refine hcon.mono ?_
    rintro e' w' ⟨rfl, q, rfl⟩
    have hxs : xs.toArray.toList = xs := rfl;rw [hxs];have hnl : (xs.take (i * 3) ++ xs.drop ((i + 1) * 3) ++ List.replicate 3 z0).length = n * 3 := by simp only [List.length_append, List.length_take, List.length_drop, List.length_replicate]; omega
    have hbl : (putRow id (Sort.ahead w q) g0 0 (xs.take (i * 3) ++ xs.drop ((i + 1) * 3) ++ List.replicate 3 z0).toArray).heap[g0]? = some (.cells (putCells id 0 (xs.take (i * 3) ++ xs.drop ((i + 1) * 3) ++ List.replicate 3 z0).toArray cur) e (0, 0)) := by simp [putRow, mapBlock, Sort.ahead, Array.getElem?_modify, hheap, onCells]
    have hr' : RdRow RdB et.cells (xs.take (i * 3) ++ xs.drop ((i + 1) * 3)) (ls.take i ++ ls.drop (i + 1)) := by
     have p1 := hrd.takeN i (by omega)
     have p2 := hrd.dropN (i + 1) (by omega)
     rw [h3] at p1 p2;exact RdRow_append p1 p2
    have hown' : (putRow id (Sort.ahead w q) g0 0 (xs.take (i * 3) ++ xs.drop ((i + 1) * 3) ++ List.replicate 3 z0).toArray).ownsRow 0 e 3 (.slice (some ⟨g0, 0, none⟩) (n - 1) cap) (n - 1) (xs.take (i * 3) ++ xs.drop ((i + 1) * 3)) := by
     refine ⟨by simp only [List.length_append, List.length_take, List.length_drop]; omega, .inr ⟨g0, cap, _, rfl, Nat.zero_le _, hbl, by omega, hcm, by simpa [putCells] using hcs, ?_⟩⟩
     apply List.ext_getElem?;intro t
     by_cases ht : t < (n - 1) * 3
     ·rw [List.getElem?_take_of_lt ht, Array.getElem?_toList]
      have k1 : t < cur.size := by rw [hcs]; omega
      simp only [putCells, Array.getElem?_mapIdx, Array.getElem?_eq_getElem k1, Option.map_some];rw [if_pos ⟨Nat.zero_le _, by simp only [List.size_toArray, hnl]; omega⟩, Nat.sub_zero, getElem!_pos _ t (by simp only [List.size_toArray, hnl]; omega), ← List.getElem?_append_left (l₂ := List.replicate 3 z0) (by simp only [List.length_append, List.length_take, List.length_drop]; omega), List.getElem?_eq_getElem (by rw [hnl]; omega)]
      rfl
     ·rw [List.getElem?_take_eq_none (by omega), List.getElem?_eq_none]
      simp only [List.length_append, List.length_take, List.length_drop]; omega
    refine ⟨_, rfl, ⟨rfl, rfl, rfl, by simp [putRow, mapBlock, Sort.ahead], fun k hk hm => ?_, Nat.le_add_right _ _⟩, ?_⟩
    ·have : g0 ≠ k := fun e0 => hm ⟨_, List.mem_singleton.2 rfl, .inl (by rw [hv, ← e0]; rfl)⟩
     simp [putRow, mapBlock, Sort.ahead, Array.getElem?_modify, this]
    ·refine ⟨[_], [⟨.slice (some ⟨g0, 0, none⟩) (n - 1) cap, []⟩], [], [_], [], rfl, rfl, ?_, ⟨rfl, rfl⟩, fun u hu c hc => .inr ⟨_, List.mem_singleton.2 rfl, ?_⟩, fun x y _ _ hx hy hne => ?_⟩
     ·refine ⟨[_], [], [_], [], rfl, rfl, ⟨rfl, rfl, ⟨rfl, n - 1, _, ls.take i ++ ls.drop (i + 1), hsz3 ▸ hown', ?_, ?_, hr'⟩, trivial⟩, rfl, rfl⟩
      ·rw [List.map_append, List.map_take, List.map_drop]
       rfl
      ·simp only [List.length_append, List.length_take, List.length_drop]; omega
     ·simp only [List.append_nil, List.mem_singleton] at hu
      subst hu
      rcases hc with hc | hc
      ·exact .inl (by rw [hv]; exact hc)
      ·obtain ⟨u, hu, _⟩ := hc
       exact absurd hu (by simp [MV.inner])
     ·have hx' := (List.getElem?_eq_some_iff.1 hx).1
      have hy' := (List.getElem?_eq_some_iff.1 hy).1;simp at hx' hy'; omega
end Vs
