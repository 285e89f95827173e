/-
  Stores into elements; slices that are only read from now on.
-/
import Derived.Test.YtfpmhmngebnphaaNt5
namespace Vs
open Go Go.RowKit

section
variable {α : Type} {Q : α → Value → D → Prop}
theorem RdCs.append' : ∀ {ts us : List α} {a b : List Value} {c d : List D}, RdCs Q ts a c → RdCs Q us b d → RdCs Q (ts ++ us) (a ++ b) (c ++ d)
  | [], _, [], _, [], _, _, h => h
  | _ :: _, _, _ :: _, _, _ :: _, _, ⟨h1, h2⟩, h => ⟨h1, h2.append' h⟩
theorem RdCs.takeN : ∀ {ts : List α} {a : List Value} {c : List D} (k : Nat), RdCs Q ts a c → RdCs Q (ts.take k) (a.take k) (c.take k)
  | ts, a, c, 0, _ => by simp [RdCs]
  | [], [], [], k + 1, _ => by simp [RdCs]
  | _ :: _, _ :: _, _ :: _, k + 1, ⟨h1, h2⟩ => ⟨h1, h2.takeN k⟩
theorem RdCs.dropN : ∀ {ts : List α} {a : List Value} {c : List D} (k : Nat), RdCs Q ts a c → RdCs Q (ts.drop k) (a.drop k) (c.drop k)
  | ts, a, c, 0, h => by simpa using h
  | [], [], [], k + 1, _ => by simp [RdCs]
  | _ :: _, _ :: _, _ :: _, k + 1, ⟨_, h2⟩ => h2.dropN k
theorem RdCs.splice {ts : List α} {a b : List Value} {c d : List D} {off sz : Nat} (h : RdCs Q ts a c) (h2 : RdCs Q ((ts.drop off).take sz) b d) : RdCs Q ts (a.take off ++ b ++ a.drop (off + sz)) (c.take off ++ d ++ c.drop (off + sz)) := by
  have h3 := ((h.takeN off).append' h2).append' (h.dropN (off + sz))
  have e : ts.take off ++ (ts.drop off).take sz ++ ts.drop (off + sz) = ts := by
    rw [List.append_assoc, ← List.drop_drop, List.take_append_drop, List.take_append_drop]
  rwa [e] at h3

theorem RdRow.setN {ts : List α} : ∀ {xs : List Value} {ls : List (List D)} {i : Nat} {c : List Value} {l : List D}, RdRow Q ts xs ls → i < ls.length → RdCs Q ts c l → RdRow Q ts (xs.take (i * ts.length) ++ c ++ xs.drop (i * ts.length + ts.length)) (ls.set i l)
  | xs, [], i, c, l, _, hi, _ => by simp at hi
  | xs, k :: ls, 0, c, l, ⟨c0, r, e, h1, h2⟩, _, hc => by
    subst e
    have hl := h1.length.1
    refine ⟨c, r, ?_, hc, h2⟩
    rw [Nat.zero_mul, Nat.zero_add, List.take_zero, List.nil_append, ← hl, List.drop_left]
  | xs, k :: ls, i + 1, c, l, ⟨c0, r, e, h1, h2⟩, hi, hc => by
    subst e
    have hl := h1.length.1
    refine ⟨c0, r.take (i * ts.length) ++ c ++ r.drop (i * ts.length + ts.length), ?_, h1, RdRow.setN h2 (by simpa using hi) hc⟩
    have e1 : (i + 1) * ts.length = c0.length + i * ts.length := by rw [hl, Nat.add_mul]; omega
    rw [e1, List.take_length_add_append, Nat.add_assoc, List.drop_length_add_append]
    simp

/-- The cells of one element. -/
theorem RdRow.elem {ts : List α} : ∀ {xs : List Value} {ls : List (List D)} {i : Nat} {l : List D}, RdRow Q ts xs ls → ls[i]? = some l → RdCs Q ts ((xs.drop (i * ts.length)).take ts.length) l
  | xs, [], i, l, _, hi => by simp at hi
  | xs, k :: ls, 0, l, ⟨c, r, e, h1, h2⟩, hi => by
    subst e
    simp only [List.getElem?_cons_zero, Option.some.injEq] at hi
    subst hi
    have hl := h1.length.1
    rw [Nat.zero_mul, List.drop_zero, ← hl, List.take_left]
    exact h1
  | xs, k :: ls, i + 1, l, ⟨c, r, e, h1, h2⟩, hi => by
    subst e
    simp only [List.getElem?_cons_succ] at hi
    have hl := h1.length.1
    have e1 : (i + 1) * ts.length = c.length + i * ts.length := by rw [hl, Nat.add_mul]; omega
    rw [e1, List.drop_length_add_append]
    exact RdRow.elem h2 hi
end

section
variable {P : Program} {X : Nat → Prop} {M : Hand} {w0 w w' : World} {S : SS} {μ μ' : Mu} {ρ : List D} {a : Act}

theorem splice_eq {xs b : List Value} {k m off sz : Nat} (h : off + sz ≤ m) (hx : k + m ≤ xs.length) :
    xs.take k ++ (((xs.drop k).take m).take off ++ b ++ ((xs.drop k).take m).drop (off + sz)) ++ xs.drop (k + m) = xs.take (k + off) ++ b ++ xs.drop (k + off + sz) := by
  have e1 : xs.take (k + off) = xs.take k ++ (xs.drop k).take off := by rw [List.take_add]
  have e2 : ((xs.drop k).take m).take off = (xs.drop k).take off := by rw [List.take_take, Nat.min_eq_left (by omega)]
  have e3 : xs.drop (k + off + sz) = ((xs.drop k).take m).drop (off + sz) ++ xs.drop (k + m) := by
    have h1 : (xs.drop k).drop (off + sz) = ((xs.drop k).take m).drop (off + sz) ++ (xs.drop k).drop m := by
      conv => lhs; rw [← List.take_append_drop m (xs.drop k)]
      rw [List.drop_append_of_le_length (by simp; omega)]
    rw [List.drop_drop, List.drop_drop] at h1
    rw [show k + off + sz = k + (off + sz) from by omega]
    exact h1
  rw [e1, e2, e3]
  simp

/-- The memory behind a store into an element. -/
theorem store_elem_world {o : Oper} {t : TypeId} {p q : Operand} {β : Nat} {sz off : Nat} {et : ET} {e : TypeId} {x : Atom} {n len cap b : Nat} {ls : List (List D)} {xs : List Value} {l' : List D} {ρ' : List D} {y : Atom} {cur : Array Value}
    (ho : o.op = .store t p q) (hR : R X M w0 S μ ρ a w) (hb : S.heap[β]? = some (.row (.s1 et) e x)) (hz : sizeB P t = some sz) (hsl : (μ β).v = .slice (some ⟨b, 0, none⟩) len cap) (hpa : a.eval p = .pointer (some ⟨b, n * et.cells.length + off, none⟩)) (hn : n < len)
    (hheap : w.heap[b]? = some (.cells cur e (0, 0))) (hcs : cur.size = cap * et.cells.length) (hlc : len ≤ cap) (hcm : cap ≤ maxLen) (htake : cur.toList.take (len * et.cells.length) = xs) (hx0 : (μ β).hist = []) (hls : ls.length = len) (hrd : RdRow RdB et.cells xs ls)
    (hcl : (a.eval q).cells.size = sz) (hoff : off + sz ≤ et.cells.length) (hone : ∀ v ∈ (a.eval q).cells.toList, v.oneCell' = true)
    (hnew : RdCs RdB et.cells (((xs.drop (n * et.cells.length)).take et.cells.length).take off ++ (a.eval q).cells.toList ++ ((xs.drop (n * et.cells.length)).take et.cells.length).drop (off + sz)) l')
    (hy : y.get ρ' = some (.lst ((ls.set n l').map (unflat et.agg)))) : HopOk P X M w0 S μ o a w ρ' SV.undef (S.heap.set β (.row (.s1 et) e y)) [β] := by
  have hfit1 : n * et.cells.length + et.cells.length ≤ len * et.cells.length := by
    have := Nat.mul_le_mul_right et.cells.length (show n + 1 ≤ len from hn)
    rwa [Nat.add_mul, Nat.one_mul] at this
  have hfit2 : len * et.cells.length ≤ cur.size := by rw [hcs]; exact Nat.mul_le_mul_right _ hlc
  have hst := run_storeCells_at P b (n * et.cells.length + off) e (a.eval q).cells.toList 0 cur w hheap (by simp; omega) hone
  simp only [Nat.add_zero] at hst
  have hown : ∀ k, (μ β).own k ↔ b = k := by
    intro k
    rw [MV.own_flat hx0, hsl]
    simp [blkOf]
  have mv : Move S μ w [β] (S.heap.set β (.row (.s1 et) e y)) μ (w.setRow b (cur.toList.take (n * et.cells.length + off) ++ (a.eval q).cells.toList ++ cur.toList.drop (n * et.cells.length + off + (a.eval q).cells.toList.length)).toArray) :=
    Move.write hb rfl rfl rfl rfl (by simp) fun k hk => setRow_other w b k _ (fun e => hk ((hown k).2 e.symm))
  refine ⟨.skip, Go.undef, μ, _, ?_, .inr ⟨rfl, rfl⟩, mv, fun γ sb hγ h => ?_, trivial⟩
  · simp [execOp, ho, hpa, Instr.storeAt, Instr.sureAddr, storeVar, sizeB_run hz, hcl] at hst ⊢
    simp [hst]
  · have hγβ : γ = β := by
      rcases h with h | h
      · simpa using h
      · have := (List.getElem?_eq_some_iff.1 hγ).1; simp at this; omega
    subst hγβ
    rw [List.getElem?_set_self (List.getElem?_eq_some_iff.1 hb).1] at hγ
    simp only [Option.some.injEq] at hγ
    subst hγ
    have hxl : xs.length = len * et.cells.length := by rw [← htake]; simp; omega
    have hset := RdRow.setN (i := n) hrd (by omega) hnew
    rw [splice_eq hoff (by rw [hxl]; omega)] at hset
    refine ⟨hx0, len, xs.take (n * et.cells.length + off) ++ (a.eval q).cells.toList ++ xs.drop (n * et.cells.length + off + sz), ls.set n l', ⟨?_, .inr ⟨b, cap, _, hsl, Nat.zero_le _, setRow_heap w b cur _ e _ hheap, hlc, hcm, ?_, ?_⟩⟩, fun b hb' => hR.mine hb rfl hb', hy, by simpa using hls, hset⟩
    · simp only [List.length_append, List.length_take, List.length_drop, Array.length_toList, hxl, hcl, rowSz]; omega
    · simp only [List.size_toArray, List.length_append, List.length_take, List.length_drop, Array.length_toList, hcl, rowSz]; omega
    · simp only [Array.length_toList, hcl, rowSz]
      rw [← htake]
      have h1 : (cur.toList.take (n * et.cells.length + off) ++ (a.eval q).cells.toList ++ cur.toList.drop (n * et.cells.length + off + sz)).take (len * et.cells.length) =
          cur.toList.take (n * et.cells.length + off) ++ (a.eval q).cells.toList ++ (cur.toList.drop (n * et.cells.length + off + sz)).take (len * et.cells.length - (n * et.cells.length + off + sz)) := by
        have hl1 : (cur.toList.take (n * et.cells.length + off) ++ (a.eval q).cells.toList).length = n * et.cells.length + off + sz := by
          simp only [List.length_append, List.length_take, Array.length_toList, hcl]; omega
        rw [List.take_append, List.take_of_length_le (by omega), hl1]
      rw [h1, List.take_take, Nat.min_eq_left (by omega), List.drop_take]

theorem proj_range {l : List D} {x : Atom} : ∀ {m k : Nat} {ρ ρ' : List D}, x.get ρ = some (.agg l) → pushAll ((List.range' k m).map fun j => (Prim.proj j, [x])) ρ = some ρ' → k + m ≤ l.length ∧ ρ' = ρ ++ (l.drop k).take m ∨ m = 0 ∧ ρ' = ρ
  | 0, k, ρ, ρ', _, h => by
    simp only [List.range'_zero, List.map_nil, pushAll, Option.some.injEq] at h
    exact .inr ⟨rfl, h.symm⟩
  | m + 1, k, ρ, ρ', hx, h => by
    left
    simp only [List.range'_succ, List.map_cons, pushAll, evs, List.map_nil, Atom.ev_of_get hx, Prim.ev] at h
    split at h
    · rename_i d hd
      have hlt := (List.getElem?_eq_some_iff.1 hd).1
      have hdr : l.drop k = d :: l.drop (k + 1) := by
        rw [List.drop_eq_getElem_cons hlt]
        congr 1
        exact (List.getElem?_eq_some_iff.1 hd).2
      rcases proj_range (Atom.get_append hx) h with ⟨h1, h2⟩ | ⟨rfl, h2⟩
      · refine ⟨by omega, ?_⟩
        rw [h2, hdr]
        simp
      · refine ⟨by omega, ?_⟩
        rw [h2, hdr]
        simp
    · cases h

theorem evs_places {ρ l : List D} : ∀ {m k : Nat}, (∀ j, j < m → ρ[k + j]? = l[j]?) → l.length = m → evs ρ ((List.range m).map fun j => Atom.v (k + j)) = l := by
  intro m k h hl
  apply List.ext_getElem?
  intro j
  simp only [evs, List.map_map, List.getElem?_map]
  by_cases hj : j < m
  · rw [List.getElem?_range hj]
    simp only [Option.map_some, Function.comp, Atom.ev]
    have h1 := h j hj
    rw [List.getElem?_eq_getElem (by omega : j < l.length)] at h1 ⊢
    rw [List.getD_eq_getElem?_getD, h1]
    rfl
  · rw [List.getElem?_eq_none (by simp; omega), List.getElem?_eq_none (by omega)]
    rfl

theorem store_elem_hop {o : Oper} {t : TypeId} {p q : Operand} {β : Nat} {i : Atom} {sz' off : Nat} {sv v : SV} {ps : List Push} {heap' : List SB} {tch : List Nat} {ρ' : List D} (ho : o.op = .store t p q) (hR : R X M w0 S μ ρ a w)
    (h1 : getSV S p = .ok (.c (.s (.eptr β i sz' off)))) (h2 : getSV S q = .ok sv) (h : hopStore P S t β i sz' off sv = .ok (v, ps, heap', tch)) (hp : pushAll ps ρ = some ρ') : HopOk P X M w0 S μ o a w ρ' v heap' tch := by
  unfold hopStore at h
  obtain ⟨sz, hz0, h0⟩ := bind_ok h
  have hz := need_ok hz0
  clear h hz0
  obtain ⟨hβ, b, len, cap, n, hsl, hi, hn0, hnlt, hpa⟩ := getSV_ok h1 hR.slots
  have hq := getSV_ok h2 hR.slots
  split at h0
  · rename_i et e x hb
    split at h0
    · rename_i ag vs hvs
      split at h0
      · rename_i hc
        obtain ⟨rfl, hvl, hoff, hpos⟩ := hc
        obtain ⟨ys, g1, g2⟩ := bind_ok h0
        clear h0
        obtain ⟨hh0, m, xs, ls, hown, _, hx, hm, hrd⟩ := hR.blocks β _ hb
        rcases hown.2 with ⟨hnil, _⟩ | ⟨g, cap', cur, hsl', _, hheap, hlc, hcm, hcs, htake⟩
        · rw [hsl] at hnil; cases hnil
        rw [hsl] at hsl'
        simp only [Value.slice.injEq, Option.some.injEq, Addr.mk.injEq, and_true] at hsl'
        obtain ⟨rfl, rfl, rfl⟩ := hsl'
        have hnl : n.toNat < ls.length := by omega
        obtain ⟨l, hl⟩ : ∃ l, ls[n.toNat]? = some l := ⟨_, List.getElem?_eq_getElem hnl⟩
        have helem := RdRow.elem hrd hl
        have hll := helem.length.2
        -- the cells of what is stored
        have hplain : vs.all plainCV = true := by
          have : ∀ {ts : List BT} {cs : List CV} {xs : List Atom}, elemPush.cellAtoms0 ts cs = .ok xs → cs.all plainCV = true := by
            intro ts
            induction ts with
            | nil => intro cs xs h; cases cs with
              | nil => rfl
              | cons c cs => simp [elemPush.cellAtoms0] at h
            | cons t ts ih =>
              intro cs xs h
              cases cs with
              | nil => simp [elemPush.cellAtoms0] at h
              | cons c cs =>
                unfold elemPush.cellAtoms0 at h
                split at h
                · rename_i heq _; cases heq
                · rename_i heq heq2
                  simp only [List.cons.injEq] at heq heq2
                  obtain ⟨rfl, rfl⟩ := heq
                  obtain ⟨rfl, rfl⟩ := heq2
                  split at h
                  · obtain ⟨ys, g1, _⟩ := bind_ok h
                    simp [plainCV, ih g1]
                  · cases h
                · cases h
          exact this g1
        have hC := svCells_ok hvs hplain hq
        obtain ⟨_, i2, i3⟩ := cellAtoms0_ok g1 hC
        have hone := CVRs_one hplain hC
        have hcl : (a.eval q).cells.size = sz := by have := hC.length; simp at this; omega
        have hnew := helem.splice (off := off) (sz := sz) i3
        have fin : ∀ {y : Atom}, y.get ρ' = some (.lst ((ls.set n.toNat (l.take off ++ evs ρ ys ++ l.drop (off + sz))).map (unflat et.agg))) → HopOk P X M w0 S μ o a w ρ' SV.undef (S.heap.set β (.row (.s1 et) e y)) [β] := fun hy =>
          store_elem_world ho hR hb hz hsl hpa (by omega) hheap hcs hlc hcm htake hh0 hm hrd hcl hoff hone hnew hy
        have push_set : ∀ {σ : List D} {z : Atom} {l' : List D}, z.get (ρ ++ σ) = some (unflat et.agg l') → pushAll [(Prim.set, [x, i, z])] (ρ ++ σ) = some ρ' → (Atom.v (ρ ++ σ).length).get ρ' = some (.lst ((ls.set n.toNat l').map (unflat et.agg))) := by
          intro σ z l' hz' hp'
          obtain ⟨d, hd, rfl⟩ := pushAll_one hp'
          simp only [evs, List.map_cons, List.map_nil, Atom.ev_of_get (Atom.get_append (σ := σ) hx), Atom.ev_of_get (Atom.get_append (σ := σ) hi), Atom.ev_of_get hz', Prim.ev, List.length_map] at hd
          rw [if_pos ⟨hn0, by omega⟩] at hd
          simp only [Option.some.injEq] at hd
          subst hd
          rw [get_new rfl]
          simp [List.map_set, rowAgg]
        split at g2
        · rename_i hag
          split at g2
          · -- a whole element
            rename_i hwhole
            simp only [Except.ok.injEq, Prod.mk.injEq] at g2
            obtain ⟨rfl, rfl, rfl, rfl⟩ := g2
            have ho0 : off = 0 := by omega
            subst ho0
            obtain ⟨σ1, p1, p2, p3⟩ := push_split (p := [(Prim.mkagg, ys)]) (q := [(Prim.set, [x, i, .v S.n])]) hp
            obtain ⟨d, hd, he⟩ := pushAll_one p1
            simp only [Prim.ev, Option.some.injEq] at hd
            subst hd
            have e1 := List.append_cancel_left he
            subst e1
            have hz' : (Atom.v S.n).get (ρ ++ [D.agg (evs ρ ys)]) = some (unflat et.agg (l.take 0 ++ evs ρ ys ++ l.drop (0 + sz))) := by
              rw [get_new hR.len]
              simp [unflat, hag]
              omega
            have := push_set hz' p3
            rw [List.length_append, hR.len] at this
            exact fin this
          · -- a part of an element
            simp only [Except.ok.injEq, Prod.mk.injEq] at g2
            obtain ⟨rfl, rfl, rfl, rfl⟩ := g2
            obtain ⟨σ0, p1, _, p2⟩ := push_split (p := [(Prim.idx, [x, i])]) (q := ((List.range et.cells.length).map fun j => (Prim.proj j, [Atom.v S.n])) ++ _) (by simpa using hp)
            obtain ⟨d, hd, he⟩ := pushAll_one p1
            simp only [evs, List.map_cons, List.map_nil, Atom.ev_of_get hx, Atom.ev_of_get hi, Prim.ev, List.length_map] at hd
            rw [if_pos ⟨hn0, by omega⟩, List.getElem?_map, hl] at hd
            simp only [Option.map_some, Option.some.injEq, rowAgg, unflat, hag, if_true] at hd
            subst hd
            have e0 := List.append_cancel_left he
            subst e0
            obtain ⟨σ1, p3, _, p4⟩ := push_split p2
            rw [List.range_eq_range'] at p3
            obtain ⟨_, e1⟩ : _ ∧ ρ ++ [D.agg l] ++ σ1 = ρ ++ [D.agg l] ++ l := by
              rcases proj_range (x := .v S.n) (l := l) (get_new hR.len) p3 with ⟨h1, h2⟩ | ⟨h1, _⟩
              · refine ⟨h1, ?_⟩
                rw [h2, List.drop_zero, ← hll, List.take_length]
              · omega
            have e1 := List.append_cancel_left e1
            subst e1
            obtain ⟨σ2, p5, _, p6⟩ := push_split (p := [(Prim.mkagg, _)]) (q := [_]) p4
            obtain ⟨d, hd, he⟩ := pushAll_one p5
            simp only [Prim.ev, Option.some.injEq] at hd
            subst hd
            have e2 := List.append_cancel_left he
            subst e2
            have hpl : evs (ρ ++ [D.agg σ1] ++ σ1) ((List.range et.cells.length).map fun j => Atom.v (S.n + 1 + j)) = σ1 :=
              evs_places (fun j hj => by
                rw [List.getElem?_append_right (by simp [hR.len])]
                congr 1
                simp [hR.len]) hll
            have hev : evs (ρ ++ [D.agg σ1] ++ σ1) (((List.range et.cells.length).map fun j => Atom.v (S.n + 1 + j)).take off ++ (ys ++ ((List.range et.cells.length).map fun j => Atom.v (S.n + 1 + j)).drop (off + sz))) = σ1.take off ++ evs ρ ys ++ σ1.drop (off + sz) := by
              have ha : ∀ (τ : List D) (p q : List Atom), evs τ (p ++ q) = evs τ p ++ evs τ q := fun τ p q => by simp [evs]
              have ht : ∀ (τ : List D) (p : List Atom) (k : Nat), evs τ (p.take k) = (evs τ p).take k := fun τ p k => by simp [evs, List.map_take]
              have hd' : ∀ (τ : List D) (p : List Atom) (k : Nat), evs τ (p.drop k) = (evs τ p).drop k := fun τ p k => by simp [evs, List.map_drop]
              rw [ha, ha, ht, hd', hpl, List.append_assoc ρ, evs_app i2, ← List.append_assoc]
            rw [hev] at p6
            have hz' : (Atom.v (S.n + 1 + et.cells.length)).get (ρ ++ ([D.agg σ1] ++ σ1 ++ [D.agg (σ1.take off ++ evs ρ ys ++ σ1.drop (off + sz))])) = some (unflat et.agg (σ1.take off ++ evs ρ ys ++ σ1.drop (off + sz))) := by
              rw [← List.append_assoc, ← List.append_assoc, get_new (by simp [hR.len, ← hll]; omega)]
              simp [unflat, hag]
            have := push_set hz' (by simpa using p6)
            rw [show (ρ ++ ([D.agg σ1] ++ σ1 ++ [D.agg (σ1.take off ++ evs ρ ys ++ σ1.drop (off + sz))])).length = S.n + 2 + et.cells.length from by simp [hR.len, ← hll]; omega] at this
            exact fin this
        · rename_i hag
          split at g2
          · rename_i y
            split at g2
            · rename_i hlen1
              simp only [Except.ok.injEq, Prod.mk.injEq] at g2
              obtain ⟨rfl, rfl, rfl, rfl⟩ := g2
              have ho0 : off = 0 := by omega
              have hs1 : sz = 1 := by omega
              subst ho0 hs1
              have hz' : y.get (ρ ++ []) = some (unflat et.agg (l.take 0 ++ evs ρ [y] ++ l.drop (0 + 1))) := by
                cases hy : y.get ρ with
                | none => exact absurd hy (i2 y (by simp))
                | some d => simp [unflat, hag, evs, Atom.ev_of_get hy, hy]
              have := push_set hz' (by simpa using hp)
              rw [List.append_nil, hR.len] at this
              exact fin this
            · cases g2
          · cases g2
      · cases h0
    · cases h0
  · rename_i et e' e ver x hb
    split at h0
    · rename_i γ
      split at h0
      · rename_i et' e'' y hγ
        split at h0
        · rename_i hc
          simp only [Except.ok.injEq, Prod.mk.injEq] at h0
          obtain ⟨rfl, rfl, rfl, rfl⟩ := h0
          obtain ⟨hne, rfl, rfl, rfl, rfl, rfl⟩ := hc
          obtain ⟨hh, m, ls, b1, _, b2, b3, b4, b5, b6⟩ := hR.blocks β _ hb
          obtain ⟨c0, k, xs, l, c1, _, c2, c3, c4⟩ := hR.blocks γ _ hγ
          obtain ⟨_, hqv, ad, len', cap', hqs⟩ := hq
          rcases b1.2 with ⟨hnil, _⟩ | ⟨g, cap0, cur, hsl', _, hheap, hlc, hcm, hcs, htake⟩
          · rw [hsl] at hnil; cases hnil
          rw [hsl] at hsl'
          simp only [Value.slice.injEq, Option.some.injEq, Addr.mk.injEq, and_true] at hsl'
          obtain ⟨rfl, rfl, rfl⟩ := hsl'
          simp only [Nat.mul_one, Nat.add_zero] at hpa hcs htake
          have hβl : live S.heap β := ⟨_, hb, by simp⟩
          have hγl : live S.heap γ := ⟨_, hγ, by simp⟩
          have hβlt := (List.getElem?_eq_some_iff.1 hb).1
          have hγlt := (List.getElem?_eq_some_iff.1 hγ).1
          have hnl : n.toNat < ls.length := by omega
          have hul : (μ β).inner.length = ls.length := b4.1
          -- the new environment
          obtain ⟨d, hd, rfl⟩ := pushAll_one hp
          simp only [evs, List.map_cons, List.map_nil, Atom.ev_of_get b2, Atom.ev_of_get hi, Atom.ev_of_get c2, rowsDat, Prim.ev, List.length_map] at hd
          rw [if_pos ⟨hn0, by omega⟩] at hd
          simp only [Option.some.injEq] at hd
          subst hd
          have hcells : (a.eval q).cells.toList = [(μ γ).v] := by rw [hqv, hqs]; rfl
          have hst := run_storeCells_at P b n.toNat e (a.eval q).cells.toList 0 cur w hheap (by rw [hcells]; simp; omega) (by rw [hcells, hqs]; simp; rfl)
          simp only [Nat.add_zero, hcells, List.length_cons, List.length_nil] at hst
          let μ' : Mu := fun δ => if δ = β then ⟨(μ β).v, (μ β).hist ++ [(μ β).inner.set n.toNat (μ γ).v]⟩ else μ δ
          have hin : (μ' β).inner = (μ β).inner.set n.toNat (μ γ).v := by simp [μ', MV.inner]
          have hμv : (μ' β).v = (μ β).v := by simp [μ']
          have hheap' : ∀ δ sb, ((S.heap.set γ .dead).set β (.rows et e'' e (ver + 1) (.v S.n)))[δ]? = some sb → (δ ∈ [β, γ] ∨ S.heap.length ≤ δ) → δ = β ∧ sb = .rows et e'' e (ver + 1) (.v S.n) ∨ δ = γ ∧ sb = .dead := by
            intro δ sb hs h
            have hlt := (List.getElem?_eq_some_iff.1 hs).1
            simp only [List.length_set] at hlt
            rcases h with h | h
            · simp only [List.mem_cons, List.not_mem_nil, or_false] at h
              rcases h with rfl | rfl
              · rw [List.getElem?_set_self (by simpa using hlt)] at hs
                simp only [Option.some.injEq] at hs
                exact .inl ⟨rfl, hs.symm⟩
              · rw [List.getElem?_set_ne (fun e => hne e.symm), List.getElem?_set_self hlt] at hs
                simp only [Option.some.injEq] at hs
                exact .inr ⟨rfl, hs.symm⟩
            · omega
          have honly : ∀ δ, live ((S.heap.set γ .dead).set β (.rows et e'' e (ver + 1) (.v S.n))) δ → (δ ∈ [β, γ] ∨ S.heap.length ≤ δ) → δ = β := by
            intro δ ⟨sb, hs, hd⟩ h
            rcases hheap' δ sb hs h with ⟨h1, _⟩ | ⟨_, h1⟩
            · exact h1
            · exact absurd h1 hd
          have hγown : ∀ k, (μ γ).own k ↔ blkOf (μ γ).v = some k := fun k => MV.own_flat c0
          have hdis : ∀ k, blkOf (μ γ).v = some k → ¬ (μ β).own k := fun k hk ho => hR.inj β γ hβl hγl (fun e => hne e.symm) k ho ((hγown k).2 hk)
          have hbb : blkOf (μ β).v = some b := by rw [hsl]; rfl
          have hset : ∀ u ∈ (μ β).inner.set n.toNat (μ γ).v, u ∈ (μ β).inner ∨ u = (μ γ).v := fun u hu => List.mem_or_eq_of_mem_set hu
          have hown' : ∀ k, (μ' β).own k → (μ β).own k ∨ (μ γ).own k := by
            intro k hk
            rcases hk with hk | ⟨u, hu, hk⟩
            · rw [hμv] at hk; exact .inl (.inl hk)
            · rw [hin] at hu
              rcases hset u hu with hu | rfl
              · exact .inl (.inr ⟨u, hu, hk⟩)
              · exact .inr (.inl hk)
          have hoth : ∀ k, k ≠ b → (w.setRow b (cur.toList.take n.toNat ++ [(μ γ).v] ++ cur.toList.drop (n.toNat + 1)).toArray).heap[k]? = w.heap[k]? := fun k hk => setRow_other w b k _ hk
          have mv : Move S μ w [β, γ] ((S.heap.set γ .dead).set β (.rows et e'' e (ver + 1) (.v S.n))) μ' (w.setRow b (cur.toList.take n.toNat ++ [(μ γ).v] ++ cur.toList.drop (n.toNat + 1)).toArray) := by
            refine ⟨fun δ hδ => ?_, by simp, fun δ hδ hn => ?_, fun δ hδ => ?_, rfl, rfl, rfl, by simp, fun k hk hn => hoth k fun e => hn β (by simp) (.inl (by rw [hbb, e])), fun δ hl h k hk => ?_, fun δ ε h1 h2 h3 h4 h5 => absurd ((honly δ h1 h3).trans (honly ε h2 h4).symm) h5⟩
            · simp only [List.mem_cons, List.not_mem_nil, or_false] at hδ
              rcases hδ with rfl | rfl
              · exact ⟨_, hb, rfl⟩
              · exact ⟨_, hγ, rfl⟩
            · simp only [List.mem_cons, List.not_mem_nil, or_false, not_or] at hn
              exact ⟨by rw [List.getElem?_set_ne (fun e => hn.1 e.symm), List.getElem?_set_ne (fun e => hn.2 e.symm)], by simp [μ', hn.1]⟩
            · by_cases he : δ = β
              · subst he; exact ⟨hμv, [(μ δ).inner.set n.toNat (μ γ).v], by simp [μ']⟩
              · exact ⟨by simp [μ', he], [], by simp [μ', he]⟩
            · have := honly δ hl h
              subst this
              rcases hown' k hk with h1 | h1
              · exact .inr ⟨δ, by simp, h1⟩
              · exact .inr ⟨γ, by simp, h1⟩
          refine ⟨.skip, Go.undef, μ', _, ?_, .inr ⟨rfl, rfl⟩, mv, fun δ sb hδ h => ?_, trivial⟩
          · have hc1 : (a.eval q).cells.size = 1 := by have := congrArg List.length hcells; simpa using this
            simp [execOp, ho, hpa, Instr.storeAt, Instr.sureAddr, storeVar, sizeB_run hz, hc1, hcells] at hst ⊢
            simp [hst]
          · rcases hheap' δ sb hδ h with ⟨rfl, rfl⟩ | ⟨rfl, rfl⟩
            · have hinb : ∀ u ∈ (μ δ).inner, ∀ k, blkOf u = some k → k ≠ b := fun u hu k hk e => b6 u hu k hk (by rw [hbb, e])
              have hgb : ∀ k, blkOf (μ γ).v = some k → k ≠ b := fun k hk e => hdis k hk (.inl (by rw [hbb, e]))
              have hA := RowsD.kept (w' := w.setRow b (cur.toList.take n.toNat ++ [(μ γ).v] ++ cur.toList.drop (n.toNat + 1)).toArray) b4 fun u hu k hk => hoth k (hinb u hu k hk)
              have hC := ownsRow_kept (w' := w.setRow b (cur.toList.take n.toNat ++ [(μ γ).v] ++ cur.toList.drop (n.toNat + 1)).toArray) c1 fun k hk => hoth k (hgb k hk)
              refine ⟨by simp [μ', hh], len, ls.set n.toNat l, ?_, fun k hk => ?_, ?_, by simpa using b3, ⟨by rw [hin]; simp [hul], fun j u l' hj hl' => ?_⟩, ?_, ?_⟩
              · rw [hμv, hin]
                refine ⟨by simp only [List.length_set]; rw [b1.1], .inr ⟨b, cap, _, hsl, Nat.zero_le _, setRow_heap w b cur _ e _ hheap, hlc, hcm, ?_, ?_⟩⟩
                · simp only [List.size_toArray, List.length_append, List.length_take, List.length_drop, Array.length_toList, List.length_cons, List.length_nil]; omega
                · rw [Nat.mul_one, ← htake, List.set_eq_take_append_cons_drop, if_pos (by simp; omega)]
                  have hl1 : (cur.toList.take n.toNat ++ [(μ γ).v]).length = n.toNat + 1 := by simp; omega
                  rw [List.take_append, List.take_of_length_le (by omega), hl1, List.take_take, Nat.min_eq_left (by omega), List.drop_take]
                  simp
              · rcases hown' k hk with h1 | h1
                · exact hR.mine hb rfl h1
                · exact hR.mine hγ rfl h1
              · rw [get_new hR.len]
                simp [rowsDat, List.map_set, rowAgg]
              · rw [hin] at hj
                by_cases he : n.toNat = j
                · subst he
                  rw [List.getElem?_set_self (by omega)] at hj hl'
                  simp only [Option.some.injEq] at hj hl'
                  subst hj hl'
                  exact ⟨k, xs, hC, c3, c4⟩
                · rw [List.getElem?_set_ne he] at hj hl'
                  exact hA.2 j u l' hj hl'
              · rw [hin]
                intro i1 i2 u u' h1 h2 h3 k hk hk'
                by_cases e1 : n.toNat = i1
                · subst e1
                  rw [List.getElem?_set_self (by omega)] at h1
                  rw [List.getElem?_set_ne h3] at h2
                  simp only [Option.some.injEq] at h1
                  subst h1
                  exact hdis k hk (.inr ⟨u', List.mem_of_getElem? h2, hk'⟩)
                · rw [List.getElem?_set_ne e1] at h1
                  by_cases e2 : n.toNat = i2
                  · subst e2
                    rw [List.getElem?_set_self (by omega)] at h2
                    simp only [Option.some.injEq] at h2
                    subst h2
                    exact hdis k hk' (.inr ⟨u, List.mem_of_getElem? h1, hk⟩)
                  · rw [List.getElem?_set_ne e2] at h2
                    exact b5 i1 i2 u u' h1 h2 h3 k hk hk'
              · rw [hin, hμv]
                intro u hu k hk hk'
                rcases hset u hu with hu | rfl
                · exact b6 u hu k hk hk'
                · exact hdis k hk (.inl hk')
            · trivial
        · cases h0
      · cases h0
    · cases h0
  · cases h0

/-- A block of one's own is given up: from now on it is only read. -/
theorem Move.kill {β : Nat} {sb : SB} (hs : S.heap[β]? = some sb) (hm : mineB sb = true) : Move S μ w [β] (S.heap.set β .dead) μ w := by
  have hlt := (List.getElem?_eq_some_iff.1 hs).1
  have only : ∀ γ, live (S.heap.set β .dead) γ → ¬ (γ ∈ [β] ∨ S.heap.length ≤ γ) := by
    intro γ hl h
    rcases h with h | h
    · simp only [List.mem_singleton] at h
      subst h
      obtain ⟨s, h1, h2⟩ := hl
      rw [List.getElem?_set_self hlt] at h1
      simp only [Option.some.injEq] at h1
      exact h2 h1.symm
    · have := live_lt hl; simp at this; omega
  refine ⟨fun γ hγ => ?_, by simp, fun γ _ hn => ⟨?_, rfl⟩, fun _ _ => ⟨rfl, [], by simp⟩, rfl, rfl, rfl, Nat.le_refl _, fun b _ _ => rfl, fun γ hl h => absurd h (only γ hl), fun γ δ hγ _ h4 => absurd h4 (only γ hγ)⟩
  · simp only [List.mem_singleton] at hγ; subst hγ; exact ⟨sb, hs, hm⟩
  · rw [List.getElem?_set_ne]; simpa [eq_comm] using hn

theorem R.freed (hR : R X M w0 S μ ρ a w) {β : Nat} {sb : SB} (hs : S.heap[β]? = some sb) (hm : mineB sb = true) : (∀ b, Fz X S.heap μ w b → Fz X (S.heap.set β .dead) μ w b) ∧ ∀ b, (μ β).own b → Fz X (S.heap.set β .dead) μ w b := by
  have hlt := (List.getElem?_eq_some_iff.1 hs).1
  have hβl : live S.heap β := ⟨sb, hs, fun e => by subst e; cases hm⟩
  have hl : ∀ γ, live (S.heap.set β .dead) γ → γ ≠ β ∧ live S.heap γ := by
    intro γ ⟨s, h1, h2⟩
    by_cases he : γ = β
    · subst he
      rw [List.getElem?_set_self hlt] at h1
      simp only [Option.some.injEq] at h1
      exact absurd h1.symm h2
    · rw [List.getElem?_set_ne (fun e => he e.symm)] at h1
      exact ⟨he, s, h1, h2⟩
  exact ⟨fun b hb => ⟨hb.1, fun γ hγ => hb.2 γ (hl γ hγ).2⟩, fun b hb => ⟨⟨hR.own_lt hβl hb, hR.exo β hβl b hb⟩, fun γ hγ => hR.inj β γ hβl (hl γ hγ).2 (fun e => (hl γ hγ).1 e.symm) b hb⟩⟩

theorem freeze_hop {o : Oper} {t : TypeId} {x : Operand} {lo hi : Option Operand} {β : Nat} {sb : SB} {slo shi : Option SV} {l : Atom} {ct : CT} {v : SV} {ps : List Push} {ρ' : List D} (ho : o.op = .slice t x lo hi none) (hR : R X M w0 S μ ρ a w)
    (h1 : getSV S x = .ok (.c (.s (.own β)))) (hlo : OptR (SVR w (Fz X S.heap μ w) S.heap.length μ ρ) slo (lo.map a.eval)) (hhi : OptR (SVR w (Fz X S.heap μ w) S.heap.length μ ρ) shi (hi.map a.eval))
    (hs : S.heap[β]? = some sb) (hm : mineB sb = true) {ds : List D} (hl : l.get ρ = some (.lst ds)) (hrd : RdC w (Fz X (S.heap.set β .dead) μ w) ct (μ β).v (.lst ds))
    (h : lopSlice P S.n t l ct slo shi = .ok (v, ps)) (hp : pushAll ps ρ = some ρ') : HopOk P X M w0 S μ o a w ρ' v (S.heap.set β .dead) [β] := by
  have mv := Move.kill (μ := μ) (w := w) hs hm
  have hg := mv.grows (X := X) (ρ := ρ)
  have opt : ∀ {so : Option SV} {y : Option Value}, OptR (SVR w (Fz X S.heap μ w) S.heap.length μ ρ) so y → OptR (SVR w (Fz X (S.heap.set β .dead) μ w) (S.heap.set β .dead).length μ ρ) so y := by
    intro so y h
    cases so with
    | none => cases y with
      | none => trivial
      | some _ => exact h.elim
    | some s => cases y with
      | none => exact h.elim
      | some u => exact SVR.mono hg h
  obtain ⟨_, hv, _⟩ := getSV_ok h1 hR.slots
  rw [← hR.len] at h
  rw [← hv] at hrd
  obtain ⟨u, hu, hr⟩ := lopSlice_ok (P := P) h hl hrd (opt hlo) (opt hhi) hp
  refine ⟨_, u, μ, w, ?_, .inl rfl, mv, fun γ sb' hγ h => ?_, hr⟩
  · simp [execOp, ho, hu]
  · have hlt := (List.getElem?_eq_some_iff.1 hs).1
    rcases h with h | h
    · simp only [List.mem_singleton] at h
      subst h
      rw [List.getElem?_set_self hlt] at hγ
      simp only [Option.some.injEq] at hγ
      subst hγ
      trivial
    · have := (List.getElem?_eq_some_iff.1 hγ).1; simp at this; omega

end
end Vs
