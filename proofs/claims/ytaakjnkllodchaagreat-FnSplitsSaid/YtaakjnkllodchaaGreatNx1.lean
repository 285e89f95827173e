/-
  Edges (two whole numbers each) sorted by the library's SortFunc: the kit's contract, turned into ours.
-/
import Derived.Test.YtaakjnkllodchaaGreatE
import Derived.Shelf.SlSortCmp.NoneTotal
set_option maxHeartbeats 4000000
namespace Vs
open Go Go.RowKit Go.Proofs Go.Shelf Go.Sort
def eE : ET := ⟨true, [.int .i64, .int .i64]⟩
def encE (x : Int × Int) : List Value := [.int .i64 x.1, .int .i64 x.2]
def edD (x : Int × Int) : D := .agg [.int x.1, .int x.2]
def edOf : List D → Option (List (Int × Int))
 | [] => some []
 | .agg [.int a, .int b] :: r => (edOf r).map ((a, b) :: ·)
 | _ => none
def cmpE (x y : Int × Int) : Int := if x.1 < y.1 then -1 else if y.1 < x.1 then 1 else if x.2 < y.2 then -1 else if y.2 < x.2 then 1 else 0
def ltE (x y : Int × Int) : Bool := ltOf cmpE x y
def sortE (l : List (Int × Int)) : List (Int × Int) := l.mergeSort fun x y => !(ltE y x)
def F402 : List D → Option (List D)
 | [.lst l] => (edOf l).bind fun es => if es.length ≤ 1048576 then some [.lst ((sortE es).map edD)] else none
 | _ => none
theorem F402_of {l : List D} {es : List (Int × Int)} (h : edOf l = some es) : F402 [.lst l] = if es.length ≤ 1048576 then some [.lst ((sortE es).map edD)] else none := by
 show (edOf l).bind _ = _
 rw [h]
 rfl
theorem ltE_iff {x y : Int × Int} : ltE x y = true ↔ x.1 < y.1 ∨ (x.1 = y.1 ∧ x.2 < y.2) := by
 unfold ltE ltOf cmpE
 split
 ·simp; omega
 ·split
  ·simp; omega
  ·split
   ·simp; omega
   ·split <;> simp <;> omega
theorem ltE_false {x y : Int × Int} : ltE x y = false ↔ ¬ (x.1 < y.1 ∨ (x.1 = y.1 ∧ x.2 < y.2)) := by rw [← ltE_iff]; simp
theorem swoE : SWO (ltOf cmpE) where
 irrefl x := by have := @ltE_false x x; unfold ltE at this; rw [this]; omega
 trans x y z h1 h2 := by have a := @ltE_iff x y; have b := @ltE_iff y z; have c := @ltE_iff x z;unfold ltE at a b c;rw [a] at h1; rw [b] at h2; rw [c]; omega
 ntrans x y z h1 h2 := by have a := @ltE_false x y; have b := @ltE_false y z; have c := @ltE_false x z;unfold ltE at a b c;rw [a] at h1; rw [b] at h2; rw [c]; omega
theorem partE (x y : Int × Int) (h1 : (ltOf cmpE) x y = false) (h2 : (ltOf cmpE) y x = false) : x = y := by
 have a := @ltE_false x y; have b := @ltE_false y x
 unfold ltE at a b
 rw [a] at h1; rw [b] at h2
 exact Prod.ext (by omega) (by omega)
theorem flat_get : ∀ (l : List (Int × Int)) (t : Nat), (l.flatMap encE)[t]? = (l[t / 2]?).map fun x => (encE x)[t % 2]!
 | [], t => by simp
 | x :: l, 0 => by simp [encE]
 | x :: l, 1 => by simp [encE]
 | x :: l, t + 2 => by
  have := flat_get l t;rw [List.flatMap_cons, show t + 2 = (encE x).length + t from by simp [encE]; omega, List.getElem?_append_right (by omega), Nat.add_sub_cancel_left, this]
  simp [encE]
theorem flatK_list (l : List (Int × Int)) : (flatK encE 2 l.toArray).toList = l.flatMap encE := by
 apply List.ext_getElem?
 intro t
 rw [flat_get, Array.getElem?_toList]
 simp only [flatK, Array.getElem?_map, List.size_toArray]
 by_cases h : t < l.length * 2
 ·have h2 : t / 2 < l.length := by omega
  rw [Array.getElem?_range, if_pos h, List.getElem?_eq_getElem h2];simp [h2]
 ·have h2 : ¬ t / 2 < l.length := by omega
  rw [Array.getElem?_range, if_neg h, List.getElem?_eq_none (by omega)]
  rfl
theorem edges_of : ∀ {ls : List (List D)} {xs : List Value}, RdRow RdB [.int .i64, .int .i64] xs ls → ∃ es, edOf (ls.map (unflat true)) = some es ∧ xs = es.flatMap encE ∧ es.length = ls.length
 | [], xs, h => ⟨[], rfl, by simpa [RdRow] using h, rfl⟩
 | l :: ls, xs, ⟨c, r, e, h1, h2⟩ => by
  obtain ⟨es, i1, i2, i3⟩ := edges_of h2
  match c, l, h1 with
  | [v1, v2], [d1, d2], h1 =>
   obtain ⟨⟨n1, rfl, rfl⟩, ⟨n2, rfl, rfl⟩, _⟩ := h1;refine ⟨(n1, n2) :: es, ?_, ?_, by simp [i3]⟩
   ·simp only [List.map_cons, unflat, if_true, edOf, i1, Option.map_some]
   ·rw [e, i2]; rfl
  | [], _, h => exact (by cases l <;> exact h.elim)
  | [_], [], h => exact h.elim
  | [_], [_], ⟨_, h⟩ => exact h.elim
  | [_], _ :: _ :: _, ⟨_, h⟩ => exact h.elim
  | _ :: _ :: _, [], h => exact h.elim
  | _ :: _ :: _, [_], ⟨_, h⟩ => exact h.elim
  | _ :: _ :: _ :: _, [_, _], ⟨_, _, h⟩ => exact h.elim
  | [_, _], _ :: _ :: _ :: _, ⟨_, _, h⟩ => exact h.elim
  | _ :: _ :: _ :: _, _ :: _ :: _ :: _, ⟨_, _, h⟩ => exact h.elim
theorem edOf_edD : ∀ (es : List (Int × Int)), edOf (es.map edD) = some es
 | [] => rfl
 | x :: es => by simp [edOf, edD, edOf_edD es]
theorem row_edges : ∀ (es : List (Int × Int)), RdRow RdB [.int .i64, .int .i64] (es.flatMap encE) (es.map fun x => [D.int x.1, D.int x.2])
 | [] => rfl
 | x :: es => ⟨encE x, es.flatMap encE, rfl, ⟨⟨_, rfl, rfl⟩, ⟨_, rfl, rfl⟩, trivial⟩, row_edges es⟩
theorem grown_of_keeps {w w' : World} {M : Nat → Prop} (h : Keeps M w w') (hM : ∀ b, ¬ M b) : ∃ q os, w' = grow (w.drewN q) os := by
 refine ⟨w'.drawn - w.drawn, w'.heap.extract w.heap.size w'.heap.size, ?_⟩
 have hd := h.drawn
 have hs := h.size
 have e : w'.heap = w.heap ++ w'.heap.extract w.heap.size w'.heap.size := by
  apply Array.ext_getElem?;intro k
  rcases Nat.lt_or_ge k w.heap.size with hk | hk
  ·rw [Array.getElem?_append_left hk]
   exact h.block k hk (hM k)
  ·rw [Array.getElem?_append_right hk, Array.getElem?_extract]
   rcases Nat.lt_or_ge k w'.heap.size with h2 | h2
   ·rw [if_pos (by omega)]
    congr 1
    omega
   ·rw [if_neg (by omega), Array.getElem?_eq_none h2]
 cases w with
 | mk heap tape drawn os output =>
  cases w' with
  | mk heap' tape' drawn' os' output' =>
   have h1 := h.os;have h2 := h.tape;have h3 := h.output;simp only at h1 h2 h3 hd hs e;subst h1 h2 h3;unfold grow World.drewN;simp only [World.mk.injEq, true_and, and_true];exact ⟨e, by omega⟩
abbrev pe : PK := .val true [.rd (.b (.int .i64)), .rd (.b (.int .i64))]
theorem cmpLays_of {P : Program} {g : Nat} {F : List D → Option (List D)} (hg : SoundCall P g ⟨[pe, pe], [(false, [.cell (.int .i64)])]⟩ F) (hF : ∀ x y : Int × Int, F [.int x.1, .int x.2, .int y.1, .int y.2] = some [.int (cmpE x y)])
  (blk off size : Nat) (w : World) : CmpLays P g #[] encE 2 cmpE blk off size w := by
 intro m os dk _ x y
 have h := hg.calls [.agg (encE x).toArray, .agg (encE y).toArray] _ [] (sortWorldK encE 2 w blk off m dk os) _ (Fm _ []) (fun _ h => h)
  ⟨[.int x.1, .int x.2], [.int y.1, .int y.2], [], [], rfl, rfl, ⟨_, rfl, _, _, [], [], rfl, rfl, ⟨rfl, _, rfl, rfl⟩, _, _, [], [], rfl, rfl, ⟨rfl, _, rfl, rfl⟩, rfl, rfl⟩,
   [.int y.1, .int y.2], [], [], [], rfl, rfl, ⟨_, rfl, _, _, [], [], rfl, rfl, ⟨rfl, _, rfl, rfl⟩, _, _, [], [], rfl, rfl, ⟨rfl, _, rfl, rfl⟩, rfl, rfl⟩, rfl, rfl⟩ (fun i j m m' hi => by simp at hi) (hF x y)
 refine h.mono ?_
 rintro e w' ⟨v, rfl, hk, vs, us, ks, d1, d2, hv, hd, hr, hks, _⟩
 obtain ⟨rfl, rfl⟩ := hks
 have hd : d1 = [.int (cmpE x y)] := by simpa using hd.symm
 subst hd
 have hv : vs = [v] := hv
 subst hv
 obtain ⟨a1, a2, o1, o2, e1, rfl, ⟨_, hr1⟩, e2, rfl⟩ := hr
 subst e2
 simp only [List.append_nil] at e1
 subst e1
 match o1, hr1 with
 | [], ⟨⟨n, h1, h2⟩, _⟩ =>
  cases h2
  exact ⟨by rw [h1], grown_of_keeps hk (by rintro b ⟨h, hm, _⟩; cases hm)⟩
 | _ :: _, ⟨_, h⟩ => exact h.elim
theorem sortFunc_sound {P : Program} {ρ : Ren} (L : SlLaysF0.n6 P ρ) {e g : Nat} (aE : ∀ w, (isAgg (ρ.t 24)).run P w = .ok true w) (zE : ∀ w, (Go.sizeOf (ρ.t 24)).run P w = .ok 2 w) {F : List D → Option (List D)}
  (hg : SoundCall P g ⟨[pe, pe], [(false, [.cell (.int .i64)])]⟩ F) (hF : ∀ x y : Int × Int, F [.int x.1, .int x.2, .int y.1, .int y.2] = some [.int (cmpE x y)]) :
  SoundCall P (ρ.f 6) ⟨[.val false [.mt (.row (.s1 eE) e) true], .fn g []], []⟩ F402 where
 enter := L.f6.enters rfl
 calls := fun vs ds ms w rs F0 _ hargs _ hG => by
  match vs, hargs with
  | [], h => exact h.elim
  | [_], ⟨_, _, _, _, _, _, _, h⟩ => exact h.elim
  | _ :: _ :: _ :: _, ⟨_, _, _, _, _, _, _, _, _, _, _, _, _, _, h⟩ => exact h.elim
  | [v1, v2], ha =>
   obtain ⟨d1, d2, m1, m2, rfl, rfl, h1, d3, d4, m3, m4, rfl, rfl, h2, rfl, rfl⟩ := ha;obtain ⟨d, d2', m1', m2', rfl, rfl, ⟨m, rfl, rfl, ⟨h0, n, xs, ls, hown, rfl, hn, hrd⟩, _⟩, rfl, rfl⟩ := h1;obtain ⟨cs, rfl, hcs⟩ := h2;have hcs0 : cs = #[] ∧ d3 = [] ∧ m3 = [] := by
    cases hl : cs.toList with
    | nil => rw [hl] at hcs; exact ⟨by apply Array.ext'; simpa using hl, hcs.1, hcs.2⟩
    | cons _ _ => rw [hl] at hcs; exact hcs.elim
   obtain ⟨rfl, rfl, rfl⟩ := hcs0;obtain ⟨es, hes, rfl, hel⟩ := edges_of hrd;have hrs : es.length ≤ 1048576 ∧ rs = [.lst ((sortE es).map edD)] := by
    have := (F402_of hes).symm.trans hG;split at this
    ·rename_i hl
     exact ⟨hl, (Option.some.inj this).symm⟩
    ·cases this
   obtain ⟨hel0, hrs⟩ := hrs;subst hrs;have hsl : (sortE es).length = es.length := List.length_mergeSort _;have eg : ∀ args w, (callFunc g args).run P w = .ok (.enter g args) w := hg.enter;have hkept : ∀ {w' : World}, w'.ownsRow 0 e 2 m.v n ((sortE es).flatMap encE) → ResR w.heap.size F0 w' [⟨m, .row (.s1 eE) e, true⟩] [] (.tuple #[]) [.lst ((sortE es).map edD)] := by
    intro w' ho;refine ⟨[], [], [m], [], [.lst ((sortE es).map edD)], rfl, rfl, ⟨rfl, rfl⟩, ?_, fun u hu b hb => .inr ⟨_, List.mem_singleton.2 rfl, ?_⟩, fun i j a b hi hj hne => ?_⟩
    ·unfold KeptR
     rw [if_pos rfl];refine ⟨_, [], m, [], rfl, rfl, rfl, ⟨h0, n, _, (sortE es).map fun (x : Int × Int) => [D.int x.1, D.int x.2], ho, ?_, by rw [List.length_map, hsl, hel, hn], row_edges (sortE es)⟩, rfl, rfl⟩
     rw [List.map_map];rfl
    ·simp only [List.nil_append, List.mem_singleton] at hu; subst hu; exact hb
    ·have hi' := (List.getElem?_eq_some_iff.1 hi).1
     have hj' := (List.getElem?_eq_some_iff.1 hj).1;simp at hi' hj'; omega
   rcases hown.2 with ⟨hv, hn0⟩ | ⟨g0, cap, cur, hv, _, hheap, hnc, hcm, hcs, htake⟩
   ·have hes0 : es = [] := List.eq_nil_of_length_eq_zero (by omega)
    subst hes0;rw [hv];refine (AnyF.slices_SortFunc_none L none 0 _ w).mono ?_
    rintro e' w' ⟨rfl, rfl⟩
    exact ⟨_, rfl, Keeps.refl _ _, hkept ⟨by simp [sortE, hn0], .inl ⟨hv, hn0⟩⟩⟩
   ·have hlt : g0 < w.heap.size := by
     rcases Nat.lt_or_ge g0 w.heap.size with h' | h'
     ·exact h'
     ·rw [Array.getElem?_eq_none h'] at hheap; cases hheap
    have hne : es.length = n := by omega
    have hcur : ∀ j, j < n * 2 → cur[j]? = (es.flatMap encE)[j]? := fun j hj => by rw [← htake, List.getElem?_take, if_pos (by simpa [rowSz, eE] using hj), Array.getElem?_toList]
    have hH : HoldsK encE 2 w g0 0 es.toArray := by
     intro j hj;have hj' : j < n * 2 := by simpa [hne] using hj
     refine ⟨?_, by simp [World.frozen?, hheap]⟩
     rw [cell_of_cells hheap, Nat.zero_add, hcur j hj', ← flatK_list, Array.getElem?_toList, Array.getElem?_eq_getElem hj];rw [getElem!_pos _ j hj];rfl
    have hcon := AnyQ.slices_SortFunc_total L 2 aE zE encE (fun _ => rfl) (fun x v hv => by simp [encE] at hv; rcases hv with rfl | rfl <;> rfl) cmpE swoE g #[] g0 0 cap es.toArray w eg
     (cmpLays_of hg hF g0 0 es.toArray.size w) hH hlt (by simp only [List.size_toArray]; omega) partE
    rw [hv];have hsz : es.toArray.size = n := by simpa using hne
    rw [hsz] at hcon;refine hcon.mono ?_
    rintro e' w' ⟨rfl, q, os, rfl⟩
    have hso : (es.toArray.toList.mergeSort fun x y => !(ltOf cmpE) y x) = sortE es := rfl
    rw [hso];have hbl : (sortWorldK encE 2 w g0 0 q (sortE es).toArray os).heap[g0]? = some (.cells (putCells id 0 (flatK encE 2 (sortE es).toArray) cur) e (0, 0)) := by
     unfold sortWorldK putRowK;rw [heap_grow_old _ _ (by simpa using hlt)]
     simp [putRow, mapBlock, Sort.ahead, Array.getElem?_modify, hheap, onCells]
    refine ⟨_, rfl, ⟨rfl, rfl, rfl, by simp [sortWorldK, putRowK, grow], fun k hk hm => ?_, Nat.le_add_right _ _⟩, hkept ⟨?_, .inr ⟨g0, cap, _, hv, Nat.zero_le _, hbl, hnc, hcm, ?_, ?_⟩⟩⟩
    ·unfold sortWorldK putRowK
     rw [heap_grow_old _ _ (by simpa using hk)]
     have : g0 ≠ k := fun e0 => hm ⟨_, List.mem_singleton.2 rfl, .inl (by rw [hv, ← e0]; rfl)⟩
     simp [putRow, mapBlock, Sort.ahead, Array.getElem?_modify, this]
    ·have : ∀ l : List (Int × Int), (l.flatMap encE).length = l.length * 2 := fun l => by rw [← flatK_list]; simp
     rw [this, hsl, hne]
    ·simpa [putCells, rowSz, eE] using hcs
    ·rw [← flatK_list]
     apply List.ext_getElem?;intro j
     by_cases hj : j < n * 2
     ·rw [List.getElem?_take_of_lt hj, Array.getElem?_toList, Array.getElem?_toList]
      have h1 : j < cur.size := by rw [hcs]; simp only [rowSz, eE, List.length_cons, List.length_nil]; omega
      have h2 : j < (flatK encE 2 (sortE es).toArray).size := by simp [hsl, hne]; omega
      simp only [putCells, Array.getElem?_mapIdx, Array.getElem?_eq_getElem h1, Option.map_some, Array.getElem?_eq_getElem h2];rw [if_pos ⟨Nat.zero_le _, by omega⟩]
      exact congrArg some (getElem!_pos _ j h2)
     ·rw [List.getElem?_take_eq_none (by omega), List.getElem?_eq_none]
      simp [hsl, hne]; omega
end Vs
