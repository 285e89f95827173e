/-
  Loads, addresses, parts.
-/
import Derived.Test.YtfpmhmngebnphaaNs6
namespace Vs
open Go Go.RowKit

section
variable {P : Program} {w : World} {F : Nat → Prop} {hl : Nat} {μ : Mu} {ρ : List D}

theorem vals_of {Pos : Nat → Value → Prop} : ∀ {cs : List (CT × Atom)}, (∀ (j : Nat) t x, cs[j]? = some (t, x) → ∃ u d, Pos j u ∧ x.get ρ = some d ∧ RdC w F t u d) →
    ∃ vs : List Value, vs.length = cs.length ∧ (∀ (j : Nat) u, vs[j]? = some u → Pos j u) ∧ CVRs w F hl μ ρ (cs.map fun (c, x) => .s (.dat c x)) vs
  | [], _ => ⟨[], rfl, by simp, trivial⟩
  | (t, x) :: cs, h => by
    obtain ⟨u, d, h1, h2, h3⟩ := h 0 t x rfl
    obtain ⟨vs, hl', hv, hr⟩ := vals_of (Pos := fun j u => Pos (j + 1) u) (cs := cs) (fun j t x hj => h (j + 1) t x (by simpa using hj))
    refine ⟨u :: vs, by simp [hl'], ?_, ⟨⟨d, h2, h3⟩, hr⟩⟩
    intro j v hj
    cases j with
    | zero => simp only [List.getElem?_cons_zero, Option.some.injEq] at hj; subst hj; exact h1
    | succ j => simp only [List.getElem?_cons_succ] at hj; exact hv j v hj

theorem getElem?_part {α : Type} {cs : List α} {off sz j : Nat} {x : α} (h : ((cs.drop off).take sz)[j]? = some x) : cs[off + j]? = some x := by
  rw [List.getElem?_take] at h
  split at h
  · rw [List.getElem?_drop] at h; exact h
  · cases h

theorem cell_of_cells {b o : Nat} {arr : Array Value} {T : TypeId} {fr : Nat × Nat} (h : w.heap[b]? = some (.cells arr T fr)) : w.cell? ⟨b, o, none⟩ = arr[o]? := by
  simp [World.cell?, h]

theorem list_of_arr {arr : Array Value} {off sz j : Nat} {u : Value} (h : ((arr.toList.drop off).take sz)[j]? = some u) : arr[off + j]? = some u := by
  have := getElem?_part h
  simpa using this
end

theorem fvals_of {w : World} {F : Nat → Prop} {hl : Nat} {μ : Mu} {ρ : List D} {Pos : Nat → Value → Prop} : ∀ {cs : List FC}, (∀ (j : Nat) c, cs[j]? = some c → ∃ u, Pos j u ∧ FCR w F hl μ ρ c u) →
    ∃ vs : List Value, vs.length = cs.length ∧ (∀ (j : Nat) u, vs[j]? = some u → Pos j u) ∧ CVRs w F hl μ ρ (cs.map FC.cv) vs := by
  intro cs
  induction cs generalizing Pos with
  | nil => intro _; exact ⟨[], rfl, by simp, trivial⟩
  | cons c cs ih =>
    intro h
    obtain ⟨u, h1, h2⟩ := h 0 c rfl
    obtain ⟨vs, hl', hv, hr⟩ := ih (Pos := fun j => Pos (j + 1)) (fun j c hj => h (j + 1) c (by simpa using hj))
    refine ⟨u :: vs, by simp [hl'], fun j v hj => ?_, FCR_cv.1 h2, hr⟩
    cases j with
    | zero => simp only [List.getElem?_cons_zero, Option.some.injEq] at hj; subst hj; exact h1
    | succ j => simp only [List.getElem?_cons_succ] at hj; exact hv j v hj

section
variable {P : Program} {X : Nat → Prop} {M : Hand} {w0 w : World} {S : SS} {μ : Mu} {ρ : List D} {a : Act}

theorem lopLoad_ok {t : TypeId} {p v : SV} {ps : List Push} {va : Value} {ρ' : List D} (h : lopLoad P S t p = .ok (v, ps)) (hR : R X M w0 S μ ρ a w)
    (hv : SVR w (Fz X S.heap μ w) S.heap.length μ ρ p va) (hp : pushAll ps ρ = some ρ') :
    ∃ u, (Instr.loadAt t va).run P w = .ok u w ∧ SVR w (Fz X S.heap μ w) S.heap.length μ ρ' v u := by
  unfold lopLoad at h
  obtain ⟨ag, ha0, h1⟩ := bind_ok h
  obtain ⟨sz, hz0, h2⟩ := bind_ok h1
  have ha := need_ok ha0
  have hz := need_ok hz0
  clear h h1 ha0 hz0
  rename _ = Except.ok _ => h
  split at h
  · -- a variable's cells
    rename_i β off
    obtain ⟨_, b, hb, rfl⟩ := hv
    split at h
    · rename_i cs hcs
      obtain ⟨_, b', arr, T, hb', _, hheap, hC⟩ := hR.blocks β _ hcs
      rw [hb] at hb'
      simp only [Value.pointer.injEq, Option.some.injEq, Addr.mk.injEq, and_true] at hb'
      subst hb'
      dsimp only at h
      split at h
      · rename_i hlen
        obtain ⟨s, hs, h⟩ := bind_ok h
        simp only [Except.ok.injEq, Prod.mk.injEq] at h
        obtain ⟨rfl, rfl⟩ := h
        simp only [pushAll, Option.some.injEq] at hp
        subst hp
        have hC' := (hC.drop off).take sz
        have hvl : ((arr.toList.drop off).take sz).length = sz := by rw [← hC'.length]; exact hlen.1
        refine ⟨_, ?_, mkSV_ok (need_ok hs) hC'⟩
        simp only [Instr.loadAt, Instr.sureAddr, Sem.run_bind, Sem.run_pure, Result.andThen_ok]
        exact loadVar_ok ha hz hvl (fun j u hu => by rw [cell_of_cells hheap]; exact list_of_arr hu) hlen.2 w rfl
      · cases h
    · cases h
  · -- frozen cells
    rename_i cs off
    obtain ⟨b, o, rfl, _, hc⟩ := hv
    dsimp only at h
    split at h
    · rename_i hlen
      obtain ⟨s, hs, h⟩ := bind_ok h
      simp only [Except.ok.injEq, Prod.mk.injEq] at h
      obtain ⟨rfl, rfl⟩ := h
      simp only [pushAll, Option.some.injEq] at hp
      subst hp
      obtain ⟨vs, hvl, hvc, hC⟩ := fvals_of (w := w) (F := Fz X S.heap μ w) (ρ := ρ) (cs := (cs.drop off).take sz) (Pos := fun j u => w.cell? ⟨b, o + off + j, none⟩ = some u) (hl := S.heap.length) (μ := μ) (fun j c hj => by
        have := hc (off + j) c (getElem?_part hj)
        rw [Nat.add_assoc]
        exact this)
      refine ⟨_, ?_, mkSV_ok (need_ok hs) hC⟩
      simp only [Instr.loadAt, Instr.sureAddr, Sem.run_bind, Sem.run_pure, Result.andThen_ok]
      exact loadVar_ok ha hz (hvl.trans hlen.1) hvc hlen.2 w rfl
    · cases h
  · -- an element of an own row
    rename_i β i sz' off
    obtain ⟨hv1, b, len, cap, n, hb, hi, h0, hn, rfl⟩ := hv
    split at h
    · rename_i rt e x hrow
      obtain ⟨_, m, xs, ls, hown, _, hx, hm, hrd⟩ := hR.blocks β _ hrow
      dsimp only at h
      split at h
      · rename_i hlen
        obtain ⟨s, hs, h⟩ := bind_ok h
        simp only [Except.ok.injEq, Prod.mk.injEq] at h
        obtain ⟨rfl, rfl⟩ := h
        simp only [pushAll, evs, List.map_cons, List.map_nil, Atom.ev_of_get hx, Atom.ev_of_get hi, Prim.ev, List.length_map] at hp
        rcases hown.2 with ⟨hnil, _⟩ | ⟨g, cap', cur, hsl, _, hheap, _, _, _, htake⟩
        · rw [hb] at hnil; cases hnil
        rw [hb] at hsl
        simp only [Value.slice.injEq, Option.some.injEq, Addr.mk.injEq, and_true] at hsl
        obtain ⟨rfl, rfl, rfl⟩ := hsl
        have hlt : n.toNat < ls.length := by omega
        obtain ⟨l, hl⟩ : ∃ l, ls[n.toNat]? = some l := ⟨_, List.getElem?_eq_getElem hlt⟩
        rw [if_pos (by omega)] at hp
        simp only [List.getElem?_map, hl, Option.map_some] at hp
        obtain ⟨c, hc, hcx⟩ := rowRd_get hrd hl
        have hn1 : (ρ ++ [unflat (rowAgg rt) l]).length = S.n + 1 := by simp [hR.len]
        rw [← hn1] at hp hs hlen
        have hgo := elemCells_ok (w := w) (F := Fz X S.heap μ w) (t := rt) (x := .v S.n) (ρ := ρ ++ [unflat (rowAgg rt) l]) (get_new hR.len) hc hp
        obtain ⟨vs, hvl, hvc, hC⟩ := vals_of (w := w) (F := Fz X S.heap μ w) (Pos := fun j u => w.cell? ⟨b, n.toNat * sz' + off + j, none⟩ = some u) (hl := S.heap.length) (μ := μ) (ρ := ρ')
            (cs := ((elemCells (ρ ++ [unflat (rowAgg rt) l]).length rt (.v S.n)).1.drop off).take sz) (fun j t x hj => by
          obtain ⟨u, d, hu, hd, hr⟩ := hgo (off + j) t x (getElem?_part hj)
          refine ⟨u, d, ?_, hd, hr⟩
          have := hcx _ _ hu
          rw [cell_of_cells hheap]
          rw [← htake] at this
          rw [List.getElem?_take] at this
          split at this
          · rw [hlen.1, Nat.add_assoc]
            simpa using this
          · cases this)
        refine ⟨_, ?_, mkSV_ok (need_ok hs) hC⟩
        simp only [Instr.loadAt, Instr.sureAddr, Sem.run_bind, Sem.run_pure, Result.andThen_ok]
        exact loadVar_ok ha hz (hvl.trans hlen.2.1) hvc hlen.2.2 w rfl
      · cases h
    · -- an own row of own rows
      rename_i et e' e ver x hrow
      obtain ⟨hh, m, ls, hown, _, hx, hm, ⟨hrl, hrd⟩, _⟩ := hR.blocks β _ hrow
      split at h
      · rename_i hc
        obtain ⟨rfl, rfl, rfl, rfl⟩ := hc
        simp only [Except.ok.injEq, Prod.mk.injEq] at h
        obtain ⟨rfl, rfl⟩ := h
        simp only [pushAll, Option.some.injEq] at hp
        subst hp
        rcases hown.2 with ⟨hnil, _⟩ | ⟨g, cap', cur, hsl, _, hheap, _, _, _, htake⟩
        · rw [hb] at hnil; cases hnil
        rw [hb] at hsl
        simp only [Value.slice.injEq, Option.some.injEq, Addr.mk.injEq, and_true] at hsl
        obtain ⟨rfl, rfl, rfl⟩ := hsl
        have hil : (μ β).inner.length = len := by have := hown.1; omega
        have hlt : n.toNat < (μ β).inner.length := by omega
        obtain ⟨uu, hu⟩ : ∃ u, (μ β).inner[n.toNat]? = some u := ⟨_, List.getElem?_eq_getElem hlt⟩
        have hll : n.toNat < ls.length := by omega
        obtain ⟨k, ys, hk, _⟩ := hrd n.toNat _ _ hu (List.getElem?_eq_getElem hll)
        obtain ⟨a', cap'', hsl'⟩ := ownsRow_slice hk
        have hcell : w.cell? ⟨b, n.toNat, none⟩ = some uu := by
          rw [cell_of_cells hheap]
          have h2 := hu
          rw [← htake, List.getElem?_take] at h2
          split at h2
          · simpa using h2
          · cases h2
        refine ⟨uu, ?_, hv1, (μ β).inner, n, MV.hist_last hh, hi, h0, hu, a', k, cap'', hsl'⟩
        simp only [Instr.loadAt, Instr.sureAddr, Sem.run_bind, Sem.run_pure, Result.andThen_ok]
        have := loadVar_ok (P := P) (w := w) (b := b) (o := n.toNat * 1 + 0) (vs := [uu]) ha hz rfl (fun j u hu' => by
          cases j with
          | zero => simp only [List.getElem?_cons_zero, Option.some.injEq] at hu'; subst hu'; simpa using hcell
          | succ j => simp at hu') (by decide) w rfl
        simpa using this
      · cases h
    · cases h
  · cases h

end

section
variable {P : Program} {w : World} {F : Nat → Prop} {hl : Nat} {μ : Mu} {ρ : List D}

theorem lopFieldAddr_ok {s : TypeId} {p v : SV} {f : Nat} {ps : List Push} {va : Value} (h : lopFieldAddr P s p f = .ok (v, ps)) (hv : SVR w F hl μ ρ p va) :
    ps = [] ∧ ∃ u, (Instr.fieldAt s va f).run P w = .ok u w ∧ SVR w F hl μ ρ v u := by
  unfold lopFieldAddr at h
  split at h
  · rename_i fs hs
    split at h
    · rename_i fd hf
      split at h
      · rename_i hz
        obtain ⟨q, hq, h⟩ := bind_ok h
        simp only [Except.ok.injEq, Prod.mk.injEq] at h
        obtain ⟨rfl, rfl⟩ := h
        obtain ⟨b, o, rfl, hq'⟩ := ptrAdd_ok hq hv
        refine ⟨rfl, _, ?_, hq'⟩
        cases hsz : sizeB P fd.type with
        | none => simp [hsz] at hz
        | some k =>
          have hk : k ≠ 0 := by simp [hsz] at hz; omega
          simp only [Instr.fieldAt, Sem.run_bind, run_underlying hs, Result.andThen_ok, hf, Instr.sureAddr, Sem.run_pure, fieldPlace, sizeB_run hsz, hk, if_false, addr_add]
      · cases h
    · cases h
  · cases h

theorem atomNat_ok {x : Atom} {k : Nat} (h : atomNat x = some k) : x.get ρ = some (.int k) := by
  unfold atomNat at h
  split at h
  · rename_i i
    split at h
    · rename_i hi
      simp only [Option.some.injEq] at h
      subst h
      simp only [Atom.get]
      rw [Int.toNat_of_nonneg hi]
    · cases h
  · cases h

theorem rd_nat {x : Atom} {k : IntKind} {v : Value} {j : Nat} (h : SVR w F hl μ ρ (.c (.s (.dat (.b (.int k)) x))) v) (hj : atomNat x = some j) : v = .int k j := by
  obtain ⟨n, rfl, hx⟩ := rd_int h
  rw [atomNat_ok hj] at hx
  simp only [Option.some.injEq, D.int.injEq] at hx
  rw [hx]

theorem lopPart_ok {t : TypeId} {cs : List CV} {off : Nat} {v : SV} {ps : List Push} {arr : Array Value} (h : lopPart P t cs off = .ok (v, ps)) (hc : CVRs w F hl μ ρ cs arr.toList) :
    ps = [] ∧ ∃ u, (part t arr off).run P w = .ok u w ∧ SVR w F hl μ ρ v u := by
  unfold lopPart at h
  obtain ⟨ag, ha0, h1⟩ := bind_ok h
  obtain ⟨sz, hz0, h2⟩ := bind_ok h1
  have ha := need_ok ha0
  have hz := need_ok hz0
  clear h h1 ha0 hz0
  rename _ = Except.ok _ => h
  dsimp only at h
  split at h
  · rename_i hlen
    obtain ⟨s, hs, h⟩ := bind_ok h
    simp only [Except.ok.injEq, Prod.mk.injEq] at h
    obtain ⟨rfl, rfl⟩ := h
    have hC := (hc.drop off).take sz
    have hvl : ((arr.toList.drop off).take sz).length = sz := by rw [← hC.length]; exact hlen.1
    refine ⟨rfl, _, ?_, mkSV_ok (need_ok hs) hC⟩
    unfold part
    simp only [Sem.run_bind, isAggB_run ha, Result.andThen_ok]
    cases ag with
    | true =>
      have e : (arr.extract off (off + sz)) = ((arr.toList.drop off).take sz).toArray := by
        apply Array.ext'
        simp [List.take_drop]
      simp [sizeB_run hz, e]
    | false =>
      have h1 : sz ≠ 0 := by omega
      have h2 : off < arr.size := by simp at hvl; omega
      simp only [Bool.false_eq_true, if_false]
      have e1 : arr[off]? = some arr[off] := Array.getElem?_eq_getElem h2
      rw [e1]
      simp only [Sem.run_pure]
      congr 1
      have e2 : ((arr.toList.drop off).take sz).head? = some arr[off] := by
        rw [List.head?_take, if_neg h1, List.head?_drop]
        simp [e1]
      cases hq : (arr.toList.drop off).take sz with
      | nil => simp [hq] at e2
      | cons y ys => simp only [hq, List.head?_cons, Option.some.injEq] at e2; simp [e2]
  · cases h

theorem lopField_ok {t : TypeId} {x v : SV} {f : Nat} {ps : List Push} {va : Value} (h : lopField P t x f = .ok (v, ps)) (hv : SVR w F hl μ ρ x va) :
    ps = [] ∧ ∃ u, (Instr.field t va f).run P w = .ok u w ∧ SVR w F hl μ ρ v u := by
  unfold lopField at h
  split at h
  · rename_i fs cs hs
    obtain ⟨arr, rfl, hc⟩ := hv
    split at h
    · rename_i fd hf
      obtain ⟨e, u, hu, hr⟩ := lopPart_ok h hc
      refine ⟨e, u, ?_, hr⟩
      simp only [Instr.field, Sem.run_bind, run_underlying hs, Result.andThen_ok, hf, asAgg, Sem.run_pure]
      exact hu
    · cases h
  · cases h

theorem lopIndex_ok {t : TypeId} {x i v : SV} {ps : List Push} {va vi : Value} (h : lopIndex P t x i = .ok (v, ps)) (hv : SVR w F hl μ ρ x va) (hi : SVR w F hl μ ρ i vi) :
    ps = [] ∧ ∃ u, (Instr.index t va vi).run P w = .ok u w ∧ SVR w F hl μ ρ v u := by
  unfold lopIndex at h
  split at h
  · rename_i len e cs k ix hs
    obtain ⟨arr, rfl, hc⟩ := hv
    split at h
    · rename_i j sz hj hz
      have := rd_nat hi hj
      subst this
      split at h
      · rename_i hlt
        obtain ⟨e', u, hu, hr⟩ := lopPart_ok h hc
        refine ⟨e', u, ?_, hr⟩
        simp only [Instr.index, asIntOf, Sem.run_bind, Sem.run_pure, Result.andThen_ok, run_underlying hs]
        rw [if_pos (by omega)]
        simp only [Sem.run_bind, sizeB_run hz, Result.andThen_ok, Int.toNat_natCast]
        exact hu
      · cases h
    · cases h
  · cases h

end
end Vs
