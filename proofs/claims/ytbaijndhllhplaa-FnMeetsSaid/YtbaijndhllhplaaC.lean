/-
  Stores into elements; slices that are only read from now on.
-/
import Derived.Test.YtbaijndhllhplaaB
import Derived.WideMake
import Derived.Orders
namespace Vs
open Go Go.RowKit
section
variable {α : Type} {Q : α → Value → D → Prop}
theorem RdCs.append' : ∀ {ts us : List α} {a b : List Value} {c d : List D}, RdCs Q ts a c → RdCs Q us b d → RdCs Q (ts ++ us) (a ++ b) (c ++ d)
 | [], _, [], _, [], _, _, h => h
 | _ :: _, _, _ :: _, _, _ :: _, _, ⟨h1, h2⟩, h => ⟨h1, h2.append' h⟩
theorem RdCs.takeN : ∀ {ts : List α} {a : List Value} {c : List D} (k : Nat), RdCs Q ts a c → RdCs Q (ts.take k) (a.take k) (c.take k)
 | ts, a, c, 0, _ => by simp [RdCs]
 | [], [], [], k + 1, _ => by simp [RdCs]
 | _ :: _, _ :: _, _ :: _, k + 1, ⟨h1, h2⟩ => ⟨h1, h2.takeN k⟩
theorem RdCs.dropN : ∀ {ts : List α} {a : List Value} {c : List D} (k : Nat), RdCs Q ts a c → RdCs Q (ts.drop k) (a.drop k) (c.drop k)
 | ts, a, c, 0, h => by simpa using h
 | [], [], [], k + 1, _ => by simp [RdCs]
 | _ :: _, _ :: _, _ :: _, k + 1, ⟨_, h2⟩ => h2.dropN k
theorem RdCs.splice {ts : List α} {a b : List Value} {c d : List D} {off sz : Nat} (h : RdCs Q ts a c) (h2 : RdCs Q ((ts.drop off).take sz) b d) : RdCs Q ts (a.take off ++ b ++ a.drop (off + sz)) (c.take off ++ d ++ c.drop (off + sz)) := by
 have h3 := ((h.takeN off).append' h2).append' (h.dropN (off + sz))
 have e : ts.take off ++ (ts.drop off).take sz ++ ts.drop (off + sz) = ts := by rw [List.append_assoc, ← List.drop_drop, List.take_append_drop, List.take_append_drop]
 rwa [e] at h3
theorem RdRow.setN {ts : List α} : ∀ {xs : List Value} {ls : List (List D)} {i : Nat} {c : List Value} {l : List D}, RdRow Q ts xs ls → i < ls.length → RdCs Q ts c l → RdRow Q ts (xs.take (i * ts.length) ++ c ++ xs.drop (i * ts.length + ts.length)) (ls.set i l)
 | xs, [], i, c, l, _, hi, _ => by simp at hi
 | xs, k :: ls, 0, c, l, ⟨c0, r, e, h1, h2⟩, _, hc => by subst e;have hl := h1.length.1;refine ⟨c, r, ?_, hc, h2⟩;rw [Nat.zero_mul, Nat.zero_add, List.take_zero, List.nil_append, ← hl, List.drop_left]
 | xs, k :: ls, i + 1, c, l, ⟨c0, r, e, h1, h2⟩, hi, hc => by
  subst e;have hl := h1.length.1;refine ⟨c0, r.take (i * ts.length) ++ c ++ r.drop (i * ts.length + ts.length), ?_, h1, RdRow.setN h2 (by simpa using hi) hc⟩
  have e1 : (i + 1) * ts.length = c0.length + i * ts.length := by rw [hl, Nat.add_mul]; omega
  rw [e1, List.take_length_add_append, Nat.add_assoc, List.drop_length_add_append];simp
theorem RdRow.elem {ts : List α} : ∀ {xs : List Value} {ls : List (List D)} {i : Nat} {l : List D}, RdRow Q ts xs ls → ls[i]? = some l → RdCs Q ts ((xs.drop (i * ts.length)).take ts.length) l
 | xs, [], i, l, _, hi => by simp at hi
 | xs, k :: ls, 0, l, ⟨c, r, e, h1, h2⟩, hi => by subst e;simp only [List.getElem?_cons_zero, Option.some.injEq] at hi;subst hi;have hl := h1.length.1;rw [Nat.zero_mul, List.drop_zero, ← hl, List.take_left];exact h1
 | xs, k :: ls, i + 1, l, ⟨c, r, e, h1, h2⟩, hi => by
  subst e;simp only [List.getElem?_cons_succ] at hi;have hl := h1.length.1;have e1 : (i + 1) * ts.length = c.length + i * ts.length := by rw [hl, Nat.add_mul]; omega
  rw [e1, List.drop_length_add_append];exact RdRow.elem h2 hi
end
section
variable {P : Program} {X : Nat → Prop} {M : Hand} {w0 w w' : World} {S : SS} {μ μ' : Mu} {ρ : List D} {a : Act}
theorem splice_eq {xs b : List Value} {k m off sz : Nat} (h : off + sz ≤ m) (hx : k + m ≤ xs.length) :
  xs.take k ++ (((xs.drop k).take m).take off ++ b ++ ((xs.drop k).take m).drop (off + sz)) ++ xs.drop (k + m) = xs.take (k + off) ++ b ++ xs.drop (k + off + sz) := by
 have e1 : xs.take (k + off) = xs.take k ++ (xs.drop k).take off := by rw [List.take_add]
 have e2 : ((xs.drop k).take m).take off = (xs.drop k).take off := by rw [List.take_take, Nat.min_eq_left (by omega)]
 have e3 : xs.drop (k + off + sz) = ((xs.drop k).take m).drop (off + sz) ++ xs.drop (k + m) := by
  have h1 : (xs.drop k).drop (off + sz) = ((xs.drop k).take m).drop (off + sz) ++ (xs.drop k).drop m := by
   conv => lhs; rw [← List.take_append_drop m (xs.drop k)]
   rw [List.drop_append_of_le_length (by simp; omega)]
  rw [List.drop_drop, List.drop_drop] at h1;rw [show k + off + sz = k + (off + sz) from by omega]
  exact h1
 rw [e1, e2, e3]
 simp
theorem store_elem_world {o : Oper} {t : TypeId} {p q : Operand} {β : Nat} {sz off : Nat} {et : ET} {e : TypeId} {x : Atom} {n len cap b : Nat} {ls : List (List D)} {xs : List Value} {l' : List D} {ρ' : List D} {y : Atom} {cur : Array Value}
  (ho : o.op = .store t p q) (hR : R X M w0 S μ ρ a w) (hb : S.heap[β]? = some (.row (.s1 et) e x)) (hz : sizeB P t = some sz) (hsl : (μ β).v = .slice (some ⟨b, 0, none⟩) len cap) (hpa : a.eval p = .pointer (some ⟨b, n * et.cells.length + off, none⟩)) (hn : n < len)
  (hheap : w.heap[b]? = some (.cells cur e (0, 0))) (hcs : cur.size = cap * et.cells.length) (hlc : len ≤ cap) (hcm : cap ≤ maxLen) (htake : cur.toList.take (len * et.cells.length) = xs) (hx0 : (μ β).hist = []) (hls : ls.length = len) (hrd : RdRow RdB et.cells xs ls)
  (hcl : (a.eval q).cells.size = sz) (hoff : off + sz ≤ et.cells.length) (hone : ∀ v ∈ (a.eval q).cells.toList, v.oneCell' = true)
  (hnew : RdCs RdB et.cells (((xs.drop (n * et.cells.length)).take et.cells.length).take off ++ (a.eval q).cells.toList ++ ((xs.drop (n * et.cells.length)).take et.cells.length).drop (off + sz)) l')
  (hy : y.get ρ' = some (.lst ((ls.set n l').map (unflat et.agg)))) : HopOk P X M w0 S μ o a w ρ' SV.undef (S.heap.set β (.row (.s1 et) e y)) [β] := by
 have hfit1 : n * et.cells.length + et.cells.length ≤ len * et.cells.length := by
  have := Nat.mul_le_mul_right et.cells.length (show n + 1 ≤ len from hn)
  rwa [Nat.add_mul, Nat.one_mul] at this
 have hfit2 : len * et.cells.length ≤ cur.size := by rw [hcs]; exact Nat.mul_le_mul_right _ hlc
 have hst := run_storeCells_at P b (n * et.cells.length + off) e (a.eval q).cells.toList 0 cur w hheap (by simp; omega) hone
 simp only [Nat.add_zero] at hst
 have hown : ∀ k, (μ β).own k ↔ b = k := by intro k;rw [MV.own_flat hx0, hsl];simp [blkOf]
 have mv : Move S μ w [β] (S.heap.set β (.row (.s1 et) e y)) μ (w.setRow b (cur.toList.take (n * et.cells.length + off) ++ (a.eval q).cells.toList ++ cur.toList.drop (n * et.cells.length + off + (a.eval q).cells.toList.length)).toArray) :=
  Move.write hb rfl rfl rfl rfl (by simp) fun k hk => setRow_other w b k _ (fun e => hk ((hown k).2 e.symm))
 refine ⟨.skip, Go.undef, μ, _, ?_, .inr ⟨rfl, rfl⟩, mv, fun γ sb hγ h => ?_, trivial⟩
 ·simp [execOp, ho, hpa, Instr.storeAt, Instr.sureAddr, storeVar, sizeB_run hz, hcl] at hst ⊢
  simp [hst]
 ·have hγβ : γ = β := by
   rcases h with h | h
   ·simpa using h
   ·have := (List.getElem?_eq_some_iff.1 hγ).1; simp at this; omega
  subst hγβ;rw [List.getElem?_set_self (List.getElem?_eq_some_iff.1 hb).1] at hγ;simp only [Option.some.injEq] at hγ;subst hγ;have hxl : xs.length = len * et.cells.length := by rw [← htake]; simp; omega
  have hset := RdRow.setN (i := n) hrd (by omega) hnew
  rw [splice_eq hoff (by rw [hxl]; omega)] at hset
  refine ⟨hx0, len, xs.take (n * et.cells.length + off) ++ (a.eval q).cells.toList ++ xs.drop (n * et.cells.length + off + sz), ls.set n l', ⟨?_, .inr ⟨b, cap, _, hsl, Nat.zero_le _, setRow_heap w b cur _ e _ hheap, hlc, hcm, ?_, ?_⟩⟩, fun b hb' => hR.mine hb rfl hb', hy, by simpa using hls, hset⟩
  ·simp only [List.length_append, List.length_take, List.length_drop, Array.length_toList, hxl, hcl, rowSz]; omega
  ·simp only [List.size_toArray, List.length_append, List.length_take, List.length_drop, Array.length_toList, hcl, rowSz]; omega
  ·simp only [Array.length_toList, hcl, rowSz]
   rw [← htake];have h1 : (cur.toList.take (n * et.cells.length + off) ++ (a.eval q).cells.toList ++ cur.toList.drop (n * et.cells.length + off + sz)).take (len * et.cells.length) =
     cur.toList.take (n * et.cells.length + off) ++ (a.eval q).cells.toList ++ (cur.toList.drop (n * et.cells.length + off + sz)).take (len * et.cells.length - (n * et.cells.length + off + sz)) := by
    have hl1 : (cur.toList.take (n * et.cells.length + off) ++ (a.eval q).cells.toList).length = n * et.cells.length + off + sz := by simp only [List.length_append, List.length_take, Array.length_toList, hcl]; omega
    rw [List.take_append, List.take_of_length_le (by omega), hl1]
   rw [h1, List.take_take, Nat.min_eq_left (by omega), List.drop_take]
theorem proj_range {l : List D} {x : Atom} : ∀ {m k : Nat} {ρ ρ' : List D}, x.get ρ = some (.agg l) → pushAll ((List.range' k m).map fun j => (Prim.proj j, [x])) ρ = some ρ' → k + m ≤ l.length ∧ ρ' = ρ ++ (l.drop k).take m ∨ m = 0 ∧ ρ' = ρ
 | 0, k, ρ, ρ', _, h => by simp only [List.range'_zero, List.map_nil, pushAll, Option.some.injEq] at h;exact .inr ⟨rfl, h.symm⟩
 | m + 1, k, ρ, ρ', hx, h => by
  left
  simp only [List.range'_succ, List.map_cons, pushAll, evs, List.map_nil, Atom.ev_of_get hx, Prim.ev] at h;split at h
  ·rename_i d hd
   have hlt := (List.getElem?_eq_some_iff.1 hd).1;have hdr : l.drop k = d :: l.drop (k + 1) := by
    rw [List.drop_eq_getElem_cons hlt]
    congr 1
    exact (List.getElem?_eq_some_iff.1 hd).2
   rcases proj_range (Atom.get_append hx) h with ⟨h1, h2⟩ | ⟨rfl, h2⟩
   ·refine ⟨by omega, ?_⟩
    rw [h2, hdr];simp
   ·refine ⟨by omega, ?_⟩
    rw [h2, hdr];simp
  ·cases h
theorem evs_places {ρ l : List D} : ∀ {m k : Nat}, (∀ j, j < m → ρ[k + j]? = l[j]?) → l.length = m → evs ρ ((List.range m).map fun j => Atom.v (k + j)) = l := by
 intro m k h hl
 apply List.ext_getElem?
 intro j
 simp only [evs, List.map_map, List.getElem?_map]
 by_cases hj : j < m
 ·rw [List.getElem?_range hj]
  simp only [Option.map_some, Function.comp, Atom.ev];have h1 := h j hj;rw [List.getElem?_eq_getElem (by omega : j < l.length)] at h1 ⊢
  rw [List.getD_eq_getElem?_getD, h1];rfl
 ·rw [List.getElem?_eq_none (by simp; omega), List.getElem?_eq_none (by omega)]
  rfl
theorem store_elem_hop {o : Oper} {t : TypeId} {p q : Operand} {β : Nat} {i : Atom} {sz' off : Nat} {sv v : SV} {ps : List Push} {heap' : List SB} {tch : List Nat} {ρ' : List D} (ho : o.op = .store t p q) (hR : R X M w0 S μ ρ a w)
  (h1 : getSV S p = .ok (.c (.s (.eptr β i sz' off)))) (h2 : getSV S q = .ok sv) (h : hopStore P S t β i sz' off sv = .ok (v, ps, heap', tch)) (hp : pushAll ps ρ = some ρ') : HopOk P X M w0 S μ o a w ρ' v heap' tch := by
 unfold hopStore at h
 obtain ⟨sz, hz0, h0⟩ := bind_ok h
 have hz := need_ok hz0
 clear h hz0
 obtain ⟨hβ, b, len, cap, n, hsl, hi, hn0, hnlt, hpa⟩ := getSV_ok h1 hR.slots
 have hq := getSV_ok h2 hR.slots
 split at h0
 ·rename_i et e x hb
  split at h0
  ·rename_i ag vs hvs
   split at h0
   ·rename_i hc
    obtain ⟨rfl, hvl, hoff, hpos⟩ := hc;obtain ⟨ys, g1, g2⟩ := bind_ok h0;clear h0;obtain ⟨hh0, m, xs, ls, hown, _, hx, hm, hrd⟩ := hR.blocks β _ hb
    rcases hown.2 with ⟨hnil, _⟩ | ⟨g, cap', cur, hsl', _, hheap, hlc, hcm, hcs, htake⟩
    ·rw [hsl] at hnil; cases hnil
    rw [hsl] at hsl';simp only [Value.slice.injEq, Option.some.injEq, Addr.mk.injEq, and_true] at hsl';obtain ⟨rfl, rfl, rfl⟩ := hsl';have hnl : n.toNat < ls.length := by omega
    obtain ⟨l, hl⟩ : ∃ l, ls[n.toNat]? = some l := ⟨_, List.getElem?_eq_getElem hnl⟩;have helem := RdRow.elem hrd hl;have hll := helem.length.2;have hplain : vs.all plainCV = true := by
     have : ∀ {ts : List BT} {cs : List CV} {xs : List Atom}, elemPush.cellAtoms0 ts cs = .ok xs → cs.all plainCV = true := by
      intro ts
      induction ts with
      | nil => intro cs xs h; cases cs with
       | nil => rfl
       | cons c cs => simp [elemPush.cellAtoms0] at h
      | cons t ts ih =>
       intro cs xs h
       cases cs with
       | nil => simp [elemPush.cellAtoms0] at h
       | cons c cs =>
        unfold elemPush.cellAtoms0 at h;split at h
        ·rename_i heq _; cases heq
        ·rename_i heq heq2
         simp only [List.cons.injEq] at heq heq2;obtain ⟨rfl, rfl⟩ := heq;obtain ⟨rfl, rfl⟩ := heq2;split at h
         ·obtain ⟨ys, g1, _⟩ := bind_ok h
          simp [plainCV, ih g1]
         ·cases h
        ·cases h
     exact this g1
    have hC := svCells_ok hvs hplain hq;obtain ⟨_, i2, i3⟩ := cellAtoms0_ok g1 hC;have hone := CVRs_one hplain hC;have hcl : (a.eval q).cells.size = sz := by have := hC.length; simp at this; omega
    have hnew := helem.splice (off := off) (sz := sz) i3;have fin : ∀ {y : Atom}, y.get ρ' = some (.lst ((ls.set n.toNat (l.take off ++ evs ρ ys ++ l.drop (off + sz))).map (unflat et.agg))) → HopOk P X M w0 S μ o a w ρ' SV.undef (S.heap.set β (.row (.s1 et) e y)) [β] := fun hy =>
     store_elem_world ho hR hb hz hsl hpa (by omega) hheap hcs hlc hcm htake hh0 hm hrd hcl hoff hone hnew hy
    have push_set : ∀ {σ : List D} {z : Atom} {l' : List D}, z.get (ρ ++ σ) = some (unflat et.agg l') → pushAll [(Prim.set, [x, i, z])] (ρ ++ σ) = some ρ' → (Atom.v (ρ ++ σ).length).get ρ' = some (.lst ((ls.set n.toNat l').map (unflat et.agg))) := by
     intro σ z l' hz' hp';obtain ⟨d, hd, rfl⟩ := pushAll_one hp';simp only [evs, List.map_cons, List.map_nil, Atom.ev_of_get (Atom.get_append (σ := σ) hx), Atom.ev_of_get (Atom.get_append (σ := σ) hi), Atom.ev_of_get hz', Prim.ev, List.length_map] at hd;rw [if_pos ⟨hn0, by omega⟩] at hd
     simp only [Option.some.injEq] at hd;subst hd;rw [get_new rfl];simp [List.map_set, rowAgg]
    split at g2
    ·rename_i hag
     split at g2
     ·
      rename_i hwhole;simp only [Except.ok.injEq, Prod.mk.injEq] at g2;obtain ⟨rfl, rfl, rfl, rfl⟩ := g2;have ho0 : off = 0 := by omega
      subst ho0;obtain ⟨σ1, p1, p2, p3⟩ := push_split (p := [(Prim.mkagg, ys)]) (q := [(Prim.set, [x, i, .v S.n])]) hp;obtain ⟨d, hd, he⟩ := pushAll_one p1;simp only [Prim.ev, Option.some.injEq] at hd;subst hd;have e1 := List.append_cancel_left he;subst e1;have hz' : (Atom.v S.n).get (ρ ++ [D.agg (evs ρ ys)]) = some (unflat et.agg (l.take 0 ++ evs ρ ys ++ l.drop (0 + sz))) := by rw [get_new hR.len];simp [unflat, hag];omega
      have := push_set hz' p3;rw [List.length_append, hR.len] at this;exact fin this
     ·
      simp only [Except.ok.injEq, Prod.mk.injEq] at g2;obtain ⟨rfl, rfl, rfl, rfl⟩ := g2;obtain ⟨σ0, p1, _, p2⟩ := push_split (p := [(Prim.idx, [x, i])]) (q := ((List.range et.cells.length).map fun j => (Prim.proj j, [Atom.v S.n])) ++ _) (by simpa using hp)
      obtain ⟨d, hd, he⟩ := pushAll_one p1;simp only [evs, List.map_cons, List.map_nil, Atom.ev_of_get hx, Atom.ev_of_get hi, Prim.ev, List.length_map] at hd;rw [if_pos ⟨hn0, by omega⟩, List.getElem?_map, hl] at hd
      simp only [Option.map_some, Option.some.injEq, rowAgg, unflat, hag, if_true] at hd;subst hd;have e0 := List.append_cancel_left he;subst e0;obtain ⟨σ1, p3, _, p4⟩ := push_split p2;rw [List.range_eq_range'] at p3;obtain ⟨_, e1⟩ : _ ∧ ρ ++ [D.agg l] ++ σ1 = ρ ++ [D.agg l] ++ l := by
       rcases proj_range (x := .v S.n) (l := l) (get_new hR.len) p3 with ⟨h1, h2⟩ | ⟨h1, _⟩
       ·refine ⟨h1, ?_⟩
        rw [h2, List.drop_zero, ← hll, List.take_length]
       ·omega
      have e1 := List.append_cancel_left e1;subst e1;obtain ⟨σ2, p5, _, p6⟩ := push_split (p := [(Prim.mkagg, _)]) (q := [_]) p4;obtain ⟨d, hd, he⟩ := pushAll_one p5;simp only [Prim.ev, Option.some.injEq] at hd;subst hd;have e2 := List.append_cancel_left he;subst e2;have hpl : evs (ρ ++ [D.agg σ1] ++ σ1) ((List.range et.cells.length).map fun j => Atom.v (S.n + 1 + j)) = σ1 :=
       evs_places (fun j hj => by
        rw [List.getElem?_append_right (by simp [hR.len])]
        congr 1
        simp [hR.len]) hll
      have hev : evs (ρ ++ [D.agg σ1] ++ σ1) (((List.range et.cells.length).map fun j => Atom.v (S.n + 1 + j)).take off ++ (ys ++ ((List.range et.cells.length).map fun j => Atom.v (S.n + 1 + j)).drop (off + sz))) = σ1.take off ++ evs ρ ys ++ σ1.drop (off + sz) := by
       have ha : ∀ (τ : List D) (p q : List Atom), evs τ (p ++ q) = evs τ p ++ evs τ q := fun τ p q => by simp [evs]
       have ht : ∀ (τ : List D) (p : List Atom) (k : Nat), evs τ (p.take k) = (evs τ p).take k := fun τ p k => by simp [evs, List.map_take]
       have hd' : ∀ (τ : List D) (p : List Atom) (k : Nat), evs τ (p.drop k) = (evs τ p).drop k := fun τ p k => by simp [evs, List.map_drop]
       rw [ha, ha, ht, hd', hpl, List.append_assoc ρ, evs_app i2, ← List.append_assoc]
      rw [hev] at p6;have hz' : (Atom.v (S.n + 1 + et.cells.length)).get (ρ ++ ([D.agg σ1] ++ σ1 ++ [D.agg (σ1.take off ++ evs ρ ys ++ σ1.drop (off + sz))])) = some (unflat et.agg (σ1.take off ++ evs ρ ys ++ σ1.drop (off + sz))) := by
       rw [← List.append_assoc, ← List.append_assoc, get_new (by simp [hR.len, ← hll]; omega)]
       simp [unflat, hag]
      have := push_set hz' (by simpa using p6)
      rw [show (ρ ++ ([D.agg σ1] ++ σ1 ++ [D.agg (σ1.take off ++ evs ρ ys ++ σ1.drop (off + sz))])).length = S.n + 2 + et.cells.length from by simp [hR.len, ← hll]; omega] at this
      exact fin this
    ·rename_i hag
     split at g2
     ·rename_i y
      split at g2
      ·rename_i hlen1
       simp only [Except.ok.injEq, Prod.mk.injEq] at g2;obtain ⟨rfl, rfl, rfl, rfl⟩ := g2;have ho0 : off = 0 := by omega
       have hs1 : sz = 1 := by omega
       subst ho0 hs1;have hz' : y.get (ρ ++ []) = some (unflat et.agg (l.take 0 ++ evs ρ [y] ++ l.drop (0 + 1))) := by
        cases hy : y.get ρ with
        | none => exact absurd hy (i2 y (by simp))
        | some d => simp [unflat, hag, evs, Atom.ev_of_get hy, hy]
       have := push_set hz' (by simpa using hp)
       rw [List.append_nil, hR.len] at this;exact fin this
      ·cases g2
     ·cases g2
   ·cases h0
  ·cases h0
 ·rename_i et e' e ver x hb
  split at h0
  ·rename_i γ
   split at h0
   ·rename_i et' e'' y hγ
    split at h0
    ·rename_i hc
     simp only [Except.ok.injEq, Prod.mk.injEq] at h0;obtain ⟨rfl, rfl, rfl, rfl⟩ := h0;obtain ⟨hne, rfl, rfl, rfl, rfl, rfl⟩ := hc;obtain ⟨hh, m, ls, b1, _, b2, b3, b4, b5, b6⟩ := hR.blocks β _ hb;obtain ⟨c0, k, xs, l, c1, _, c2, c3, c4⟩ := hR.blocks γ _ hγ;obtain ⟨_, hqv, ad, len', cap', hqs⟩ := hq
     rcases b1.2 with ⟨hnil, _⟩ | ⟨g, cap0, cur, hsl', _, hheap, hlc, hcm, hcs, htake⟩
     ·rw [hsl] at hnil; cases hnil
     rw [hsl] at hsl';simp only [Value.slice.injEq, Option.some.injEq, Addr.mk.injEq, and_true] at hsl';obtain ⟨rfl, rfl, rfl⟩ := hsl';simp only [Nat.mul_one, Nat.add_zero] at hpa hcs htake;have hβl : live S.heap β := ⟨_, hb, by simp⟩
     have hγl : live S.heap γ := ⟨_, hγ, by simp⟩
     have hβlt := (List.getElem?_eq_some_iff.1 hb).1;have hγlt := (List.getElem?_eq_some_iff.1 hγ).1;have hnl : n.toNat < ls.length := by omega
     have hul : (μ β).inner.length = ls.length := b4.1;obtain ⟨d, hd, rfl⟩ := pushAll_one hp;simp only [evs, List.map_cons, List.map_nil, Atom.ev_of_get b2, Atom.ev_of_get hi, Atom.ev_of_get c2, rowsDat, Prim.ev, List.length_map] at hd;rw [if_pos ⟨hn0, by omega⟩] at hd
     simp only [Option.some.injEq] at hd;subst hd;have hcells : (a.eval q).cells.toList = [(μ γ).v] := by rw [hqv, hqs]; rfl
     have hst := run_storeCells_at P b n.toNat e (a.eval q).cells.toList 0 cur w hheap (by rw [hcells]; simp; omega) (by rw [hcells, hqs]; simp; rfl)
     simp only [Nat.add_zero, hcells, List.length_cons, List.length_nil] at hst
     let μ' : Mu := fun δ => if δ = β then ⟨(μ β).v, (μ β).hist ++ [(μ β).inner.set n.toNat (μ γ).v]⟩ else μ δ
     have hin : (μ' β).inner = (μ β).inner.set n.toNat (μ γ).v := by simp [μ', MV.inner]
     have hμv : (μ' β).v = (μ β).v := by simp [μ']
     have hheap' : ∀ δ sb, ((S.heap.set γ .dead).set β (.rows et e'' e (ver + 1) (.v S.n)))[δ]? = some sb → (δ ∈ [β, γ] ∨ S.heap.length ≤ δ) → δ = β ∧ sb = .rows et e'' e (ver + 1) (.v S.n) ∨ δ = γ ∧ sb = .dead := by
      intro δ sb hs h;have hlt := (List.getElem?_eq_some_iff.1 hs).1;simp only [List.length_set] at hlt
      rcases h with h | h
      ·simp only [List.mem_cons, List.not_mem_nil, or_false] at h
       rcases h with rfl | rfl
       ·rw [List.getElem?_set_self (by simpa using hlt)] at hs
        simp only [Option.some.injEq] at hs;exact .inl ⟨rfl, hs.symm⟩
       ·rw [List.getElem?_set_ne (fun e => hne e.symm), List.getElem?_set_self hlt] at hs
        simp only [Option.some.injEq] at hs;exact .inr ⟨rfl, hs.symm⟩
      ·omega
     have honly : ∀ δ, live ((S.heap.set γ .dead).set β (.rows et e'' e (ver + 1) (.v S.n))) δ → (δ ∈ [β, γ] ∨ S.heap.length ≤ δ) → δ = β := by
      intro δ ⟨sb, hs, hd⟩ h
      rcases hheap' δ sb hs h with ⟨h1, _⟩ | ⟨_, h1⟩
      ·exact h1
      ·exact absurd h1 hd
     have hγown : ∀ k, (μ γ).own k ↔ blkOf (μ γ).v = some k := fun k => MV.own_flat c0
     have hdis : ∀ k, blkOf (μ γ).v = some k → ¬ (μ β).own k := fun k hk ho => hR.inj β γ hβl hγl (fun e => hne e.symm) k ho ((hγown k).2 hk)
     have hbb : blkOf (μ β).v = some b := by rw [hsl]; rfl
     have hset : ∀ u ∈ (μ β).inner.set n.toNat (μ γ).v, u ∈ (μ β).inner ∨ u = (μ γ).v := fun u hu => List.mem_or_eq_of_mem_set hu
     have hown' : ∀ k, (μ' β).own k → (μ β).own k ∨ (μ γ).own k := by
      intro k hk
      rcases hk with hk | ⟨u, hu, hk⟩
      ·rw [hμv] at hk; exact .inl (.inl hk)
      ·rw [hin] at hu
       rcases hset u hu with hu | rfl
       ·exact .inl (.inr ⟨u, hu, hk⟩)
       ·exact .inr (.inl hk)
     have hoth : ∀ k, k ≠ b → (w.setRow b (cur.toList.take n.toNat ++ [(μ γ).v] ++ cur.toList.drop (n.toNat + 1)).toArray).heap[k]? = w.heap[k]? := fun k hk => setRow_other w b k _ hk
     have mv : Move S μ w [β, γ] ((S.heap.set γ .dead).set β (.rows et e'' e (ver + 1) (.v S.n))) μ' (w.setRow b (cur.toList.take n.toNat ++ [(μ γ).v] ++ cur.toList.drop (n.toNat + 1)).toArray) := by
      refine ⟨fun δ hδ => ?_, by simp, fun δ hδ hn => ?_, fun δ hδ => ?_, rfl, rfl, rfl, by simp, fun k hk hn => hoth k fun e => hn β (by simp) (.inl (by rw [hbb, e])), fun δ hl h k hk => ?_, fun δ ε h1 h2 h3 h4 h5 => absurd ((honly δ h1 h3).trans (honly ε h2 h4).symm) h5⟩
      ·simp only [List.mem_cons, List.not_mem_nil, or_false] at hδ
       rcases hδ with rfl | rfl
       ·exact ⟨_, hb, rfl⟩
       ·exact ⟨_, hγ, rfl⟩
      ·simp only [List.mem_cons, List.not_mem_nil, or_false, not_or] at hn
       exact ⟨by rw [List.getElem?_set_ne (fun e => hn.1 e.symm), List.getElem?_set_ne (fun e => hn.2 e.symm)], by simp [μ', hn.1]⟩
      ·by_cases he : δ = β
       ·subst he; exact ⟨hμv, [(μ δ).inner.set n.toNat (μ γ).v], by simp [μ']⟩
       ·exact ⟨by simp [μ', he], [], by simp [μ', he]⟩
      ·have := honly δ hl h
       subst this
       rcases hown' k hk with h1 | h1
       ·exact .inr ⟨δ, by simp, h1⟩
       ·exact .inr ⟨γ, by simp, h1⟩
     refine ⟨.skip, Go.undef, μ', _, ?_, .inr ⟨rfl, rfl⟩, mv, fun δ sb hδ h => ?_, trivial⟩
     ·have hc1 : (a.eval q).cells.size = 1 := by have := congrArg List.length hcells; simpa using this
      simp [execOp, ho, hpa, Instr.storeAt, Instr.sureAddr, storeVar, sizeB_run hz, hc1, hcells] at hst ⊢;simp [hst]
     ·rcases hheap' δ sb hδ h with ⟨rfl, rfl⟩ | ⟨rfl, rfl⟩
      ·have hinb : ∀ u ∈ (μ δ).inner, ∀ k, blkOf u = some k → k ≠ b := fun u hu k hk e => b6 u hu k hk (by rw [hbb, e])
       have hgb : ∀ k, blkOf (μ γ).v = some k → k ≠ b := fun k hk e => hdis k hk (.inl (by rw [hbb, e]))
       have hA := RowsD.kept (w' := w.setRow b (cur.toList.take n.toNat ++ [(μ γ).v] ++ cur.toList.drop (n.toNat + 1)).toArray) b4 fun u hu k hk => hoth k (hinb u hu k hk)
       have hC := ownsRow_kept (w' := w.setRow b (cur.toList.take n.toNat ++ [(μ γ).v] ++ cur.toList.drop (n.toNat + 1)).toArray) c1 fun k hk => hoth k (hgb k hk)
       refine ⟨by simp [μ', hh], len, ls.set n.toNat l, ?_, fun k hk => ?_, ?_, by simpa using b3, ⟨by rw [hin]; simp [hul], fun j u l' hj hl' => ?_⟩, ?_, ?_⟩
       ·rw [hμv, hin]
        refine ⟨by simp only [List.length_set]; rw [b1.1], .inr ⟨b, cap, _, hsl, Nat.zero_le _, setRow_heap w b cur _ e _ hheap, hlc, hcm, ?_, ?_⟩⟩
        ·simp only [List.size_toArray, List.length_append, List.length_take, List.length_drop, Array.length_toList, List.length_cons, List.length_nil]; omega
        ·rw [Nat.mul_one, ← htake, List.set_eq_take_append_cons_drop, if_pos (by simp; omega)]
         have hl1 : (cur.toList.take n.toNat ++ [(μ γ).v]).length = n.toNat + 1 := by simp; omega
         rw [List.take_append, List.take_of_length_le (by omega), hl1, List.take_take, Nat.min_eq_left (by omega), List.drop_take]
         simp
       ·rcases hown' k hk with h1 | h1
        ·exact hR.mine hb rfl h1
        ·exact hR.mine hγ rfl h1
       ·rw [get_new hR.len]
        simp [rowsDat, List.map_set, rowAgg]
       ·rw [hin] at hj
        by_cases he : n.toNat = j
        ·subst he
         rw [List.getElem?_set_self (by omega)] at hj hl'
         simp only [Option.some.injEq] at hj hl';subst hj hl';exact ⟨k, xs, hC, c3, c4⟩
        ·rw [List.getElem?_set_ne he] at hj hl'
         exact hA.2 j u l' hj hl'
       ·rw [hin]
        intro i1 i2 u u' h1 h2 h3 k hk hk'
        by_cases e1 : n.toNat = i1
        ·subst e1
         rw [List.getElem?_set_self (by omega)] at h1
         rw [List.getElem?_set_ne h3] at h2;simp only [Option.some.injEq] at h1;subst h1;exact hdis k hk (.inr ⟨u', List.mem_of_getElem? h2, hk'⟩)
        ·rw [List.getElem?_set_ne e1] at h1
         by_cases e2 : n.toNat = i2
         ·subst e2
          rw [List.getElem?_set_self (by omega)] at h2
          simp only [Option.some.injEq] at h2;subst h2;exact hdis k hk' (.inr ⟨u, List.mem_of_getElem? h1, hk⟩)
         ·rw [List.getElem?_set_ne e2] at h2
          exact b5 i1 i2 u u' h1 h2 h3 k hk hk'
       ·rw [hin, hμv]
        intro u hu k hk hk'
        rcases hset u hu with hu | rfl
        ·exact b6 u hu k hk hk'
        ·exact hdis k hk (.inl hk')
      ·trivial
    ·cases h0
   ·cases h0
  ·cases h0
 ·cases h0
theorem Move.kill {β : Nat} {sb : SB} (hs : S.heap[β]? = some sb) (hm : mineB sb = true) : Move S μ w [β] (S.heap.set β .dead) μ w := by
 have hlt := (List.getElem?_eq_some_iff.1 hs).1
 have only : ∀ γ, live (S.heap.set β .dead) γ → ¬ (γ ∈ [β] ∨ S.heap.length ≤ γ) := by
  intro γ hl h
  rcases h with h | h
  ·simp only [List.mem_singleton] at h
   subst h;obtain ⟨s, h1, h2⟩ := hl;rw [List.getElem?_set_self hlt] at h1;simp only [Option.some.injEq] at h1;exact h2 h1.symm
  ·have := live_lt hl; simp at this; omega
 refine ⟨fun γ hγ => ?_, by simp, fun γ _ hn => ⟨?_, rfl⟩, fun _ _ => ⟨rfl, [], by simp⟩, rfl, rfl, rfl, Nat.le_refl _, fun b _ _ => rfl, fun γ hl h => absurd h (only γ hl), fun γ δ hγ _ h4 => absurd h4 (only γ hγ)⟩
 ·simp only [List.mem_singleton] at hγ; subst hγ; exact ⟨sb, hs, hm⟩
 ·rw [List.getElem?_set_ne]; simpa [eq_comm] using hn
theorem R.freed (hR : R X M w0 S μ ρ a w) {β : Nat} {sb : SB} (hs : S.heap[β]? = some sb) (hm : mineB sb = true) : (∀ b, Fz X S.heap μ w b → Fz X (S.heap.set β .dead) μ w b) ∧ ∀ b, (μ β).own b → Fz X (S.heap.set β .dead) μ w b := by
 have hlt := (List.getElem?_eq_some_iff.1 hs).1
 have hβl : live S.heap β := ⟨sb, hs, fun e => by subst e; cases hm⟩
 have hl : ∀ γ, live (S.heap.set β .dead) γ → γ ≠ β ∧ live S.heap γ := by
  intro γ ⟨s, h1, h2⟩
  by_cases he : γ = β
  ·subst he
   rw [List.getElem?_set_self hlt] at h1;simp only [Option.some.injEq] at h1;exact absurd h1.symm h2
  ·rw [List.getElem?_set_ne (fun e => he e.symm)] at h1
   exact ⟨he, s, h1, h2⟩
 exact ⟨fun b hb => ⟨hb.1, fun γ hγ => hb.2 γ (hl γ hγ).2⟩, fun b hb => ⟨⟨hR.own_lt hβl hb, hR.exo β hβl b hb⟩, fun γ hγ => hR.inj β γ hβl (hl γ hγ).2 (fun e => (hl γ hγ).1 e.symm) b hb⟩⟩
theorem freeze_hop {o : Oper} {t : TypeId} {x : Operand} {lo hi : Option Operand} {β : Nat} {sb : SB} {slo shi : Option SV} {l : Atom} {ct : CT} {v : SV} {ps : List Push} {ρ' : List D} (ho : o.op = .slice t x lo hi none) (hR : R X M w0 S μ ρ a w)
  (h1 : getSV S x = .ok (.c (.s (.own β)))) (hlo : OptR (SVR w (Fz X S.heap μ w) S.heap.length μ ρ) slo (lo.map a.eval)) (hhi : OptR (SVR w (Fz X S.heap μ w) S.heap.length μ ρ) shi (hi.map a.eval))
  (hs : S.heap[β]? = some sb) (hm : mineB sb = true) {ds : List D} (hl : l.get ρ = some (.lst ds)) (hrd : RdC w (Fz X (S.heap.set β .dead) μ w) ct (μ β).v (.lst ds))
  (h : lopSlice P S.n t l ct slo shi = .ok (v, ps)) (hp : pushAll ps ρ = some ρ') : HopOk P X M w0 S μ o a w ρ' v (S.heap.set β .dead) [β] := by
 have mv := Move.kill (μ := μ) (w := w) hs hm
 have hg := mv.grows (X := X) (ρ := ρ)
 have opt : ∀ {so : Option SV} {y : Option Value}, OptR (SVR w (Fz X S.heap μ w) S.heap.length μ ρ) so y → OptR (SVR w (Fz X (S.heap.set β .dead) μ w) (S.heap.set β .dead).length μ ρ) so y := by
  intro so y h
  cases so with
  | none => cases y with
   | none => trivial
   | some _ => exact h.elim
  | some s => cases y with
   | none => exact h.elim
   | some u => exact SVR.mono hg h
 obtain ⟨_, hv, _⟩ := getSV_ok h1 hR.slots
 rw [← hR.len] at h
 rw [← hv] at hrd
 obtain ⟨u, hu, hr⟩ := lopSlice_ok (P := P) h hl hrd (opt hlo) (opt hhi) hp
 refine ⟨_, u, μ, w, ?_, .inl rfl, mv, fun γ sb' hγ h => ?_, hr⟩
 ·simp [execOp, ho, hu]
 ·have hlt := (List.getElem?_eq_some_iff.1 hs).1
  rcases h with h | h
  ·simp only [List.mem_singleton] at h
   subst h;rw [List.getElem?_set_self hlt] at hγ;simp only [Option.some.injEq] at hγ;subst hγ
   trivial
  ·have := (List.getElem?_eq_some_iff.1 hγ).1; simp at this; omega
theorem cells_row {b : BT} : ∀ {n : Nat} {vs : List Value} {ds : List D}, RdCs RdB (List.replicate n b) vs ds → RdRow RdB [b] vs (ds.map fun d => [d])
 | 0, [], [], _ => rfl
 | n + 1, v :: vs, d :: ds, h => by rw [List.replicate_succ] at h;exact ⟨[v], vs, rfl, ⟨h.1, trivial⟩, cells_row h.2⟩
 | 0, _ :: _, _, h => h.elim
 | 0, [], _ :: _, h => h.elim
 | n + 1, [], _, h => by rw [List.replicate_succ] at h; exact h.elim
 | n + 1, _ :: _, [], h => by rw [List.replicate_succ] at h; exact h.elim
theorem arr_hop {o : Oper} {t e : TypeId} {x : Operand} {β n : Nat} {cs : List CV} {bt : BT} {xs : List Atom} {ρ' : List D} (ho : o.op = .slice t x none none none) (hR : R X M w0 S μ ρ a w)
  (h1 : getSV S x = .ok (.c (.s (.vptr β 0)))) (ht : P.underlying t = some (.array n e)) (hz : sizeB P e = some 1) (hs : S.heap[β]? = some (.var cs))
  (hx : elemPush.cellAtoms0 (List.replicate n bt) cs = .ok xs) (hp : pushAll [(.mklst, xs)] ρ = some ρ') : HopOk P X M w0 S μ o a w ρ' (.c (.s (.dat (.s1 ⟨false, [bt]⟩) (.v S.n)))) (S.heap.set β .dead) [β] := by
 have mv := Move.kill (μ := μ) (w := w) hs rfl
 obtain ⟨f1, f2⟩ := hR.freed hs rfl
 obtain ⟨_, b, hb, hv⟩ := getSV_ok h1 hR.slots
 obtain ⟨h3, b', arr, T, hb', _, hheap, hC⟩ := hR.blocks β _ hs
 rw [hb] at hb'
 simp only [Value.pointer.injEq, Option.some.injEq, Addr.mk.injEq, and_true] at hb'
 subst hb'
 obtain ⟨_, _, hrd⟩ := cellAtoms0_ok hx hC
 obtain ⟨d, hd, rfl⟩ := pushAll_one hp
 simp only [Prim.ev, Option.some.injEq] at hd
 subst hd
 have hl1 := hrd.length
 simp only [List.length_replicate] at hl1
 refine ⟨_, .slice (some ⟨b, 0, none⟩) n n, μ, w, ?_, .inl rfl, mv, fun γ sb' hγ h => ?_, ?_⟩
 ·simp [execOp, ho, hv, Instr.sliceAt, Instr.sureAddr, Instr.sliceBounds, run_underlying ht, sizeB_run hz, addr_add]
 ·have hlt := (List.getElem?_eq_some_iff.1 hs).1
  rcases h with h | h
  ·simp only [List.mem_singleton] at h
   subst h;rw [List.getElem?_set_self hlt] at hγ;simp only [Option.some.injEq] at hγ;subst hγ
   trivial
  ·have := (List.getElem?_eq_some_iff.1 hγ).1; simp at this; omega
 ·refine ⟨_, get_new hR.len, (evs ρ xs).map fun d => [d], ?_, .inr ⟨b, 0, n, arr.toList, ?_, ?_, f2 b (.inl (by rw [hb]; rfl)), fun j u hj => ?_, cells_row hrd⟩⟩
  ·rw [List.map_map, show (unflat false ∘ fun d : D => [d]) = id from rfl, List.map_id]
  ·rw [List.length_map, hl1.2]
  ·rw [List.length_map, hl1.2]; exact Nat.le_refl _
  ·rw [cell_of_cells hheap, Nat.zero_add]; simpa using hj
end
end Vs

namespace Vs
open Go Go.RowKit
section
variable {P : Program} {X : Nat → Prop} {M : Hand} {w0 w w' : World} {S : SS} {μ : Mu} {ρ : List D} {a : Act}
theorem src_hop {σ : List D} {o : Oper} {ts : List CT} {arr : Array Value} {T : TypeId} {x : Atom} {ds : List D} (hR : R X M w0 S μ ρ a w) (hr : (execOp a.eval o).run P w = .ok (.value (.pointer (some ⟨w.heap.size, 0, none⟩))) { w with heap := w.heap.push (.cells arr T) })
  (hc : RdCs (RdC w (Fz X S.heap μ w)) ts arr.toList ds) (hx : x.get (ρ ++ σ) = some (.agg ds)) : HopOk P X M w0 S μ o a w (ρ ++ σ) (.c (.s (.vptr S.heap.length 0))) (S.heap ++ [.bx ts x]) [] := by
 have m : Move S μ w [] (S.heap ++ [.bx ts x]) (fun β => if β < S.heap.length then μ β else MV.one (.pointer (some ⟨w.heap.size, 0, none⟩))) { w with heap := w.heap.push (.cells arr T) } :=
  Move.fresh (by simp) rfl (fun _ _ => rfl) (by simp) rfl rfl rfl (by simp) (fun b hb _ => by simp only; rw [Array.getElem?_push, if_neg (by omega)]) (fun b hb => by
   rcases hb with hb | ⟨u, hu, _⟩
   ·simp only [MV.one, blkOf, Option.some.injEq] at hb; left; omega
   ·simp [MV.one, MV.inner] at hu)
 refine ⟨_, _, _, _, hr, .inl rfl, m, fun β sb hb h => ?_, ?_⟩
 ·have hge : S.heap.length ≤ β := by
   rcases h with h | h
   ·simp at h
   ·exact h
  rw [List.getElem?_append_right hge] at hb;have hβ : β = S.heap.length := by have := (List.getElem?_eq_some_iff.1 hb).1;simp at this; omega
  subst hβ;simp only [Nat.sub_self, List.getElem?_cons_zero, Option.some.injEq] at hb;subst hb;simp only [Nat.lt_irrefl, if_false];exact ⟨rfl, w.heap.size, arr, T, ds, rfl, .inl hR.keeps.size, by simp, hx, hc.mono fun t v d hd => hd.mono (m.grows (X := X) (ρ := ρ)).stays⟩
 ·exact ⟨by simp, w.heap.size, by simp [MV.one], rfl⟩
theorem boxAtoms_ok {F : Nat → Prop} {hl : Nat} : ∀ {ts : List CT} {cs : List CV} {xs : List Atom} {vs : List Value}, boxAtoms ts cs = .ok xs → CVRs w F hl μ ρ cs vs → RdCs (RdC w F) ts vs (evs ρ xs) ∧ ∀ x ∈ xs, x.get ρ ≠ none
 | [], [], xs, [], h, _ => by simp only [boxAtoms, Except.ok.injEq] at h;subst h;exact ⟨trivial, by simp⟩
 | t :: ts, c :: cs, xs, v :: vs, h, ⟨h1, h2⟩ => by
  unfold boxAtoms at h;split at h
  ·rename_i heq; cases heq
  ·rename_i t0 ts0 t' x cs0 heq1 heq2
   simp only [List.cons.injEq] at heq1 heq2;obtain ⟨rfl, rfl⟩ := heq1;obtain ⟨rfl, rfl⟩ := heq2;split at h
   ·rename_i ht
    subst ht;obtain ⟨ys, g1, g2⟩ := bind_ok h;simp only [Except.ok.injEq] at g2;subst g2;obtain ⟨d, hx, hd⟩ := h1;obtain ⟨i1, i2⟩ := boxAtoms_ok g1 h2;refine ⟨⟨by show RdC w F t v (x.ev ρ); rw [Atom.ev_of_get hx]; exact hd, i1⟩, fun y hy => ?_⟩
    rcases List.mem_cons.1 hy with rfl | hy
    ·rw [hx]; simp
    ·exact i2 y hy
   ·cases h
  ·rename_i t0 ts0 cs0 heq1 heq2
   simp only [List.cons.injEq] at heq1 heq2;obtain ⟨rfl, rfl⟩ := heq1;obtain ⟨rfl, rfl⟩ := heq2
   cases t with
   | b t => cases h
   | s1 e =>
    obtain ⟨ys, g1, g2⟩ := bind_ok h;simp only [Except.ok.injEq] at g2;subst g2;have h1 : v = .slice none 0 0 := h1;obtain ⟨i1, i2⟩ := boxAtoms_ok g1 h2;refine ⟨⟨?_, i1⟩, fun y hy => ?_⟩
    ·rw [h1]
     exact ⟨[], rfl, .inl ⟨⟨none, 0, rfl, fun _ => rfl⟩, rfl⟩⟩
    ·rcases List.mem_cons.1 hy with rfl | hy
     ·simp [Atom.get]
     ·exact i2 y hy
   | s2 e =>
    obtain ⟨ys, g1, g2⟩ := bind_ok h;simp only [Except.ok.injEq] at g2;subst g2;have h1 : v = .slice none 0 0 := h1;obtain ⟨i1, i2⟩ := boxAtoms_ok g1 h2;refine ⟨⟨?_, i1⟩, fun y hy => ?_⟩
    ·rw [h1]
     exact ⟨[], rfl, .inl ⟨⟨none, 0, rfl, fun _ => rfl⟩, rfl⟩⟩
    ·rcases List.mem_cons.1 hy with rfl | hy
     ·simp [Atom.get]
     ·exact i2 y hy
  ·cases h
 | [], _ :: _, _, _, h, _ => by simp [boxAtoms] at h
 | _ :: _, [], _, _, h, _ => by simp [boxAtoms] at h
theorem store_bx_hop {o : Oper} {t : TypeId} {p x : Operand} {β off sz : Nat} {s : SV} {ag : Bool} {vs : List CV} {ts : List CT} {y : Atom} {v : SV} {ps : List Push} {heap' : List SB} {tch : List Nat} {ρ' : List D} (ho : o.op = .store t p x) (hR : R X M w0 S μ ρ a w)
  (h1 : getSV S p = .ok (.c (.s (.vptr β off)))) (h2 : getSV S x = .ok s) (hz : sizeB P t = some sz) (hvs : svCells s = some (ag, vs)) (hcs : S.heap[β]? = some (.bx ts y)) (h : hopBoxStore S β ts y off sz vs = .ok (v, ps, heap', tch)) (hp : pushAll ps ρ = some ρ') :
  HopOk P X M w0 S μ o a w ρ' v heap' tch := by
 unfold hopBoxStore at h
 obtain ⟨ys, g1, g2⟩ := bind_ok h
 clear h
 dsimp only at g2
 split at g2
 case isFalse => cases g2
 rename_i hlen
 simp only [Except.ok.injEq, Prod.mk.injEq] at g2
 obtain ⟨rfl, rfl, rfl, rfl⟩ := g2
 have hC := svCells_ok hvs hlen.2.2 (getSV_ok h2 hR.slots)
 obtain ⟨i1, i2⟩ := boxAtoms_ok g1 hC
 obtain ⟨_, b, hb, hpv⟩ := getSV_ok h1 hR.slots
 obtain ⟨h0, b', arr, T, ds, hb', hmine, hheap, hy, hC0⟩ := hR.blocks β _ hcs
 rw [hb] at hb'
 simp only [Value.pointer.injEq, Option.some.injEq, Addr.mk.injEq, and_true] at hb'
 subst hb'
 have hcl := hC0.length
 have hvl := hC.length
 have hone := CVRs_one hlen.2.2 hC
 simp only [Array.length_toList] at hcl hvl
 obtain ⟨σ1, q1, q2, q3⟩ := push_split hp
 have hpr := proj_push (ts := ts) (k := 0) hy q1
 have hσ : σ1 = ds := by
  apply List.ext_getElem?;intro j
  rcases Nat.lt_or_ge j ts.length with hj | hj
  ·obtain ⟨_, e, _⟩ := hpr j hj
   rw [List.getElem?_append_right (by omega), Nat.zero_add] at e
   simpa using e
  ·rw [List.getElem?_eq_none (by rw [q2]; simpa using hj), List.getElem?_eq_none (by rw [hcl.2]; exact hj)]
 subst hσ
 obtain ⟨d, hd, rfl⟩ := pushAll_one q3
 simp only [Prim.ev, Option.some.injEq] at hd
 have hL : evs (ρ ++ σ1) ((List.range ts.length).map fun j => Atom.v (S.n + j)) = σ1 := by
  unfold evs;rw [List.map_map];apply List.ext_getElem?;intro j;rw [List.getElem?_map]
  rcases Nat.lt_or_ge j ts.length with hj | hj
  ·rw [List.getElem?_range hj]
   simp only [Option.map_some, Function.comp, Atom.ev];rw [List.getD_eq_getElem?_getD, List.getElem?_append_right (by rw [hR.len]; omega), hR.len, Nat.add_sub_cancel_left, List.getElem?_eq_getElem (by rw [hcl.2]; exact hj)]
   rfl
  ·rw [List.getElem?_eq_none (by simpa using hj), List.getElem?_eq_none (by rw [hcl.2]; exact hj)]
   rfl
 have hE : evs (ρ ++ σ1) ys = evs ρ ys := evs_app i2
 have hcell : d = .agg (σ1.take off ++ evs ρ ys ++ σ1.drop (off + sz)) := by
  rw [← hd];have e9 : ∀ L : List Atom, evs (ρ ++ σ1) (L.take off ++ ys ++ L.drop (off + sz)) = (evs (ρ ++ σ1) L).take off ++ evs (ρ ++ σ1) ys ++ (evs (ρ ++ σ1) L).drop (off + sz) := fun L => by simp only [evs, List.map_append, List.map_take, List.map_drop]
  rw [e9, hL, hE]
 have hst := run_storeCells_at P b off T (a.eval x).cells.toList 0 arr w hheap (by simp; omega) hone
 simp only [Nat.add_zero] at hst
 have hown : ∀ k, (μ β).own k ↔ b = k := by intro k;rw [MV.own_flat h0, hb];simp [blkOf]
 have m : Move S μ w [β] (S.heap.set β (.bx ts (.v (S.n + ts.length)))) μ (w.setRow b (arr.toList.take off ++ (a.eval x).cells.toList ++ arr.toList.drop (off + (a.eval x).cells.toList.length)).toArray) :=
  Move.write hcs rfl rfl rfl rfl (by simp) fun k hk => setRow_other w b k _ (fun e => hk ((hown k).2 e.symm))
 refine ⟨.skip, Go.undef, μ, _, ?_, .inr ⟨rfl, rfl⟩, m, fun γ sb hγ h => ?_, trivial⟩
 ·have hsz : (a.eval x).cells.size = sz := by omega
  simp [execOp, ho, hpv, Instr.storeAt, Instr.sureAddr, storeVar, sizeB_run hz, hsz] at hst ⊢;simp [hst]
 ·have hγβ : γ = β := by
   rcases h with h | h
   ·simpa using h
   ·have := (List.getElem?_eq_some_iff.1 hγ).1; simp at this; omega
  subst hγβ;rw [List.getElem?_set_self (List.getElem?_eq_some_iff.1 hcs).1] at hγ;simp only [Option.some.injEq] at hγ;subst hγ;have hgr := (m.grows (X := X) (ρ := ρ)).stays;have e3 : off + (a.eval x).cells.toList.length = off + sz := by simp; omega
  refine ⟨h0, b, _, T, σ1.take off ++ evs ρ ys ++ σ1.drop (off + sz), hb, hmine, setRow_heap w b arr _ T _ hheap, ?_, ?_⟩
  ·rw [← hcell]
   exact get_new (by rw [List.length_append, hR.len, hcl.2])
  ·have h9 := RdCs.splice (off := off) (sz := sz) hC0 i1
   have e4 : arr.toList.drop (off + (a.eval x).cells.toList.length) = arr.toList.drop (off + sz) := by rw [e3]
   rw [← e4] at h9;exact h9.mono fun t v d hd => hd.mono hgr
end
end Vs

namespace Vs
open Go Go.RowKit Go.ChangeMaps
section
variable {P : Program} {X : Nat → Prop} {M : Hand} {w0 w : World} {S : SS} {μ : Mu} {ρ : List D} {a : Act}
theorem MapR.val {m : MPK} {es : List MapEntry} {kvs : List (List Int × D)} {us : List Value} (h : MapR w m es kvs us none) {j : Nat} {e : MapEntry} {kv : List Int × D} (h1 : es[j]? = some e) (h2 : kvs[j]? = some kv) :
  us[j]? = some e.val ∧ ValR w m.v e.val kv.2 ∧ e.born = j ∧ e.key = kVal kv.1 := by
 have hlt : j < us.length := by rw [h.ulen]; exact (List.getElem?_eq_some_iff.1 h2).1
 obtain ⟨g1, g2, _, g4⟩ := h.ent j e kv _ h1 h2 (List.getElem?_eq_getElem hlt)
 obtain ⟨g5, g6⟩ := g4 (by simp)
 rw [g5] at g6
 exact ⟨by rw [List.getElem?_eq_getElem hlt, g5], g6, g1, g2⟩
theorem MapR.set {m : MPK} {es : List MapEntry} {kvs : List (List Int × D)} {us : List Value} {hk : Option Nat} (h : MapR w m es kvs us hk) {j : Nat} {e : MapEntry} {kv : List Int × D} (h1 : es[j]? = some e) (h2 : kvs[j]? = some kv)
  (hh : hk = none ∨ hk = some j) {v : Value} {d : D} (hv : ValR w m.v v d) : MapR w m (es.set j { e with key := kVal kv.1, val := v }) (kvs.set j (kv.1, d)) (us.set j v) none := by
 have e1 : (kvs.set j (kv.1, d)).map (·.1) = kvs.map (·.1) := by
  rw [List.map_set];apply List.ext_getElem?;intro i;rw [List.getElem?_set];split
  ·rename_i hji
   subst hji;split
   ·rw [List.getElem?_map, h2]; rfl
   ·rename_i hge
    simp only [List.length_map] at hge;rw [List.getElem?_eq_none (by simpa using hge)]
  ·rfl
 have hjlt : j < kvs.length := (List.getElem?_eq_some_iff.1 h2).1
 refine ⟨by simp [h.len], by simp [h.ulen], by rw [e1]; exact h.nodup, fun i kv' hi => ?_, fun i e' kv' u' g1 g2 g3 => ?_⟩
 ·by_cases hji : j = i
  ·subst hji
   rw [List.getElem?_set_self hjlt] at hi;simp only [Option.some.injEq] at hi;subst hi;exact h.key j kv h2
  ·rw [List.getElem?_set_ne hji] at hi
   exact h.key i kv' hi
 ·by_cases hji : j = i
  ·subst hji
   rw [List.getElem?_set_self (by rw [h.len]; exact hjlt)] at g1
   rw [List.getElem?_set_self hjlt] at g2;rw [List.getElem?_set_self (by rw [h.ulen]; exact hjlt)] at g3
   simp only [Option.some.injEq] at g1 g2 g3;subst g1 g2 g3;obtain ⟨_, _, u0, _, _, q3⟩ := h.at hjlt;obtain ⟨q1, _⟩ := h.ent j e kv u0 h1 h2 q3;exact ⟨q1, rfl, fun hc => (by cases hc), fun _ => ⟨rfl, hv⟩⟩
  ·rw [List.getElem?_set_ne hji] at g1 g2 g3
   obtain ⟨q1, q2, q3, q4⟩ := h.ent i e' kv' u' g1 g2 g3;refine ⟨q1, q2, fun hc => (by cases hc), fun _ => q4 fun hc => ?_⟩
   rcases hh with rfl | rfl
   ·cases hc
   ·simp only [Option.some.injEq] at hc; exact hji hc
theorem MapR.push {m : MPK} {es : List MapEntry} {kvs : List (List Int × D)} {us : List Value} (h : MapR w m es kvs us none) {ns : List Int} (hn : ns.length = m.kn) (hr : kR ns) (hno : ∀ kv ∈ kvs, kv.1 ≠ ns) {v : Value} {d : D} (hv : ValR w m.v v d) :
  MapR w m (es ++ [⟨kVal ns, v, es.length⟩]) (kvs ++ [(ns, d)]) (us ++ [v]) none := by
 refine ⟨by simp [h.len], by simp [h.ulen], ?_, fun i kv' hi => ?_, fun i e' kv' u' g1 g2 g3 => ?_⟩
 ·rw [List.map_append, List.map_cons, List.map_nil, List.nodup_append]
  refine ⟨h.nodup, by simp, fun x hx y hy => ?_⟩
  simp only [List.mem_singleton] at hy;subst hy;obtain ⟨kv, hkv, rfl⟩ := List.mem_map.1 hx;exact hno kv hkv
 ·rcases Nat.lt_or_ge i kvs.length with hlt | hge
  ·rw [List.getElem?_append_left hlt] at hi
   exact h.key i kv' hi
  ·rw [List.getElem?_append_right hge] at hi
   cases hi0 : i - kvs.length with
   | zero =>
    rw [hi0] at hi;simp only [List.getElem?_cons_zero, Option.some.injEq] at hi;subst hi;exact ⟨hn, hr⟩
   | succ k => rw [hi0] at hi; simp at hi
 ·rcases Nat.lt_or_ge i kvs.length with hlt | hge
  ·rw [List.getElem?_append_left (by rw [h.len]; exact hlt)] at g1
   rw [List.getElem?_append_left hlt] at g2;rw [List.getElem?_append_left (by rw [h.ulen]; exact hlt)] at g3
   exact h.ent i e' kv' u' g1 g2 g3
  ·rw [List.getElem?_append_right (by rw [h.len]; exact hge)] at g1
   rw [List.getElem?_append_right hge] at g2;rw [List.getElem?_append_right (by rw [h.ulen]; exact hge)] at g3
   rw [h.len] at g1;rw [h.ulen] at g3
   cases hi0 : i - kvs.length with
   | zero =>
    rw [hi0] at g1 g2 g3;simp only [List.getElem?_cons_zero, Option.some.injEq] at g1 g2 g3;subst g1 g2 g3;exact ⟨by show kvs.length = i; omega, rfl, fun hc => (by cases hc), fun _ => ⟨rfl, hv⟩⟩
   | succ k => rw [hi0] at g2; simp at g2
theorem setBlock_other {b : Nat} {es : Array MapEntry} {c : Nat} (hb : w.heap[b]? = some (.map es c)) (o : Obj) {i : Nat} (h : i ≠ b) : (setBlock w b o).heap[i]? = w.heap[i]? := heap_setBlock_other hb o h
theorem map_hop {o : Oper} {β : Nat} {m : MPK} {ver : Nat} {d x' : Atom} {hole : Option Atom} {ts : List Nat} {es es' : Array MapEntry} {kvs' : List (List Int × D)} {us' : List Value} {b : Nat} {σ : List D} {v : SV} {u : Value} {nx : Next}
  (hR : R X M w0 S μ ρ a w) (hb : S.heap[β]? = some (.map m ver d hole)) (hv : (μ β).v = .map (some b)) (hheap : w.heap[b]? = some (.map es es.size))
  (hrun : (execOp a.eval o).run P w = .ok nx (setBlock w b (.map es' es'.size))) (hnx : nx = .value u ∨ (nx = .skip ∧ u = Go.undef))
  (hts : ∀ γ ∈ ts, γ ≠ β ∧ ∃ sb, S.heap[γ]? = some sb ∧ mineB sb = true)
  (hx : x'.get (ρ ++ σ) = some (mD kvs')) (hmr : MapR w m es'.toList kvs' us' none) (hap : Apart us')
  (hus : ∀ y ∈ us', ∀ c, blkOf y = some c → c ≠ b ∧ ((μ β).own c ∨ ∃ γ ∈ ts, (μ γ).own c))
  (hval : ∀ (μ1 : Mu) (F : Nat → Prop) (w1 : World), (∀ δ, δ ≠ β → μ1 δ = μ δ) → (μ1 β).v = (μ β).v → (μ1 β).hist = (μ β).hist ++ [us'] → SVR w1 F S.heap.length μ1 (ρ ++ σ) v u) :
  HopOk P X M w0 S μ o a w (ρ ++ σ) v ((killAll S.heap ts).set β (.map m (ver + 1) x' none)) (β :: ts) := by
 have hβ : β < S.heap.length := (List.getElem?_eq_some_iff.1 hb).1
 obtain ⟨hlen, hmine, _⟩ := hR.blocks β _ hb
 obtain ⟨k1, k2, k3⟩ := killAll_get (bs := ts) (h := S.heap)
 have hnot : β ∉ ts := fun h => (hts β h).1 rfl
 let μ' : Mu := fun δ => if δ = β then ⟨(μ β).v, (μ β).hist ++ [us']⟩ else μ δ
 have hin : (μ' β).inner = us' := by simp [μ', MV.inner]
 have hμv : (μ' β).v = (μ β).v := by simp [μ']
 have hbb : blkOf (μ β).v = some b := by rw [hv]; rfl
 have hheap' : ∀ δ sb, ((killAll S.heap ts).set β (.map m (ver + 1) x' none))[δ]? = some sb → (δ ∈ β :: ts ∨ S.heap.length ≤ δ) → δ = β ∧ sb = .map m (ver + 1) x' none ∨ sb = .dead := by
  intro δ sb hs h;have hlt := (List.getElem?_eq_some_iff.1 hs).1;simp only [List.length_set, k1] at hlt
  rcases h with h | h
  ·rcases List.mem_cons.1 h with rfl | h
   ·rw [List.getElem?_set_self (by rw [k1]; exact hlt)] at hs
    simp only [Option.some.injEq] at hs;exact .inl ⟨rfl, hs.symm⟩
   ·rw [List.getElem?_set_ne (fun e => hnot (by rw [e]; exact h)), k3 δ h hlt] at hs
    simp only [Option.some.injEq] at hs;exact .inr hs.symm
  ·omega
 have honly : ∀ δ, live ((killAll S.heap ts).set β (.map m (ver + 1) x' none)) δ → (δ ∈ β :: ts ∨ S.heap.length ≤ δ) → δ = β := by
  intro δ ⟨sb, hs, hd⟩ h
  rcases hheap' δ sb hs h with ⟨h1, _⟩ | h1
  ·exact h1
  ·exact absurd h1 hd
 have hown' : ∀ c, (μ' β).own c → (μ β).own c ∨ ∃ γ ∈ ts, (μ γ).own c := by
  intro c hc
  rcases hc with hc | ⟨y, hy, hc⟩
  ·rw [hμv] at hc; exact .inl (.inl hc)
  ·rw [hin] at hy; exact (hus y hy c hc).2
 have hoth : ∀ k, k ≠ b → (setBlock w b (.map es' es'.size)).heap[k]? = w.heap[k]? := fun k hk => setBlock_other hheap _ hk
 have mv : Move S μ w (β :: ts) ((killAll S.heap ts).set β (.map m (ver + 1) x' none)) μ' (setBlock w b (.map es' es'.size)) := by
  refine ⟨fun δ hδ => ?_, by simp [k1], fun δ hδ hn => ?_, fun δ hδ => ?_, rfl, rfl, rfl, by simp [setBlock], fun k hk hn => hoth k fun e => hn β (by simp) (.inl (by rw [hbb, e])), fun δ hl h c hc => ?_, fun δ ε h1 h2 h3 h4 h5 => absurd ((honly δ h1 h3).trans (honly ε h2 h4).symm) h5⟩
  ·rcases List.mem_cons.1 hδ with rfl | hδ
   ·exact ⟨_, hb, rfl⟩
   ·exact (hts δ hδ).2
  ·simp only [List.mem_cons, not_or] at hn
   exact ⟨by rw [List.getElem?_set_ne (fun e => hn.1 e.symm), k2 δ hn.2], by simp [μ', hn.1]⟩
  ·by_cases he : δ = β
   ·subst he; exact ⟨hμv, [us'], by simp [μ']⟩
   ·exact ⟨by simp [μ', he], [], by simp [μ', he]⟩
  ·have := honly δ hl h
   subst this
   rcases hown' c hc with h1 | ⟨γ, h1, h2⟩
   ·exact .inr ⟨δ, by simp, h1⟩
   ·exact .inr ⟨γ, by simp [h1], h2⟩
 refine ⟨nx, u, μ', _, hrun, hnx, mv, fun δ sb hδ h => ?_, ?_⟩
 ·rcases hheap' δ sb hδ h with ⟨rfl, rfl⟩ | rfl
  ·refine ⟨by simp [μ', hlen], fun c hc => ?_, mD kvs', none, hx, trivial, b, es', kvs', by rw [hμv]; exact hv, heap_setBlock_same hheap _, rfl, ?_, by rw [hin]; exact hap, fun y hy c hc => ?_⟩
   ·rcases hown' c hc with h1 | ⟨γ, h1, h2⟩
    ·exact hmine c h1
    ·obtain ⟨sb, g1, g2⟩ := (hts γ h1).2
     exact hR.mine g1 g2 h2
   ·rw [hin]
    exact hmr.kept fun y hy c hc => hoth c (hus y hy c hc).1
   ·rw [hin] at hy
    exact (hus y hy c hc).1
  ·trivial
 ·have : ((killAll S.heap ts).set β (.map m (ver + 1) x' none)).length = S.heap.length := by simp [k1]
  rw [this];exact hval μ' _ _ (fun δ hδ => by simp [μ', hδ]) hμv (by simp [μ'])
variable {m : MPK} {e : TypeId} {b : Nat} {es : Array MapEntry} {kvs : List (List Int × D)} {us : List Value} {hk : Option Nat}
theorem modify_toList (es : Array MapEntry) {j : Nat} {e0 : MapEntry} (h : es.toList[j]? = some e0) (f : MapEntry → MapEntry) : (es.modify j f).toList = es.toList.set j (f e0) := by rw [Array.toList_modify, modify_eq_set _ _ _ _ h]
theorem run_update (hM : MpOk P m e) (hb : w.heap[b]? = some (.map es es.size)) (hm : MapR w m es.toList kvs us hk) {ns : List Int} (hl : ns.length = m.kn) (hr : kR ns) (v : Value) :
  ((Instr.mapUpdate m.t (.map (some b)) (kVal ns) v).run P w = .ok () (setBlock w b (.map (es.push ⟨kVal ns, v, es.size⟩) (es.size + 1))) ∧ ∀ kv ∈ kvs, kv.1 ≠ ns) ∨
  ∃ (j : Nat) (e0 : MapEntry) (kv : List Int × D), (Instr.mapUpdate m.t (.map (some b)) (kVal ns) v).run P w = .ok () (setBlock w b (.map (es.modify j fun x => { x with key := kVal ns, val := v }) es.size)) ∧ es.toList[j]? = some e0 ∧ kvs[j]? = some kv ∧ kv.1 = ns := by
 obtain ⟨⟨lx, hlx⟩, h⟩ := find_key hM hm hl hr
 have hc := hM.law.check w false hlx
 rcases h with ⟨h1, h2⟩ | ⟨j, e0, kv, h1, h2, h3, h4, h5⟩
 ·exact .inl ⟨by simp [Instr.mapUpdate, run_underlying hM.ty, MapKept.run_getObj_map hb, hc, h1, MapKept.run_setObj_map _ hb, Result.andThen, setBlock], h2⟩
 ·have hj : es[j]? = some e0 := by simpa using h2
  exact .inr ⟨j, e0, kv, by simp [Instr.mapUpdate, run_underlying hM.ty, MapKept.run_getObj_map hb, hc, h1, hj, h5, hM.law.stays w hlx, MapKept.run_setObj_map _ hb, Result.andThen, setBlock], h2, h3, h4⟩
theorem run_entry (hM : MpOk P m e) (hb : w.heap[b]? = some (.map es es.size)) (hm : MapR w m es.toList kvs us hk) {z : Value} (hz : ∀ w, (zeroValue e).run P w = .ok z w) {ns : List Int} (hl : ns.length = m.kn) (hr : kR ns) :
  ((Instr.mapEntry m.t (.map (some b)) (kVal ns)).run P w = .ok (.tuple #[z, .int .i64 (es.size : Int)]) (setBlock w b (.map (es.push ⟨kVal ns, z, es.size⟩) (es.size + 1))) ∧ ∀ kv ∈ kvs, kv.1 ≠ ns) ∨
  ∃ (j : Nat) (e0 : MapEntry) (kv : List Int × D), (Instr.mapEntry m.t (.map (some b)) (kVal ns)).run P w = .ok (.tuple #[e0.val, .int .i64 (e0.born : Int)]) (setBlock w b (.map (es.modify j fun x => { x with key := kVal ns }) es.size)) ∧ es.toList[j]? = some e0 ∧ kvs[j]? = some kv ∧ kv.1 = ns := by
 obtain ⟨⟨lx, hlx⟩, h⟩ := find_key hM hm hl hr
 have hc := hM.law.check w false hlx
 rcases h with ⟨h1, h2⟩ | ⟨j, e0, kv, h1, h2, h3, h4, h5⟩
 ·exact .inl ⟨by simp [Instr.mapEntry, run_underlying hM.ty, MapKept.run_getObj_map hb, hc, h1, hz, MapKept.run_setObj_map _ hb, Result.andThen, setBlock, goInt], h2⟩
 ·have hj : es[j]? = some e0 := by simpa using h2
  exact .inr ⟨j, e0, kv, by simp [Instr.mapEntry, run_underlying hM.ty, MapKept.run_getObj_map hb, hc, h1, hj, h5, hM.law.stays w hlx, MapKept.run_setObj_map _ hb, Result.andThen, setBlock, goInt], h2, h3, h4⟩
theorem findIdx_born : ∀ (l : List MapEntry) (k n : Nat), (∀ (i : Nat) x, l[i]? = some x → x.born = k + i) → n < l.length → l.findIdx? (fun x => (x.born : Int) == ((k + n : Nat) : Int)) = some n
 | [], _, n, _, h => by simp at h
 | x :: r, k, 0, hb, _ => by have := hb 0 x rfl;simp [List.findIdx?_cons, this]
 | x :: r, k, n + 1, hb, h => by
  have h0 := hb 0 x rfl;have hne : ((x.born : Int) == ((k + (n + 1) : Nat) : Int)) = false := by rw [h0];simp only [Nat.add_zero, beq_eq_false_iff_ne, ne_eq];omega
  rw [List.findIdx?_cons, hne]
  have ih := findIdx_born r (k + 1) n (fun i y hy => by
   have := hb (i + 1) y (by simpa using hy)
   rw [this]; omega) (by simpa using h)
  rw [show k + (n + 1) = k + 1 + n by omega, ih]
  rfl
theorem run_entryStore (hb : w.heap[b]? = some (.map es es.size)) (hm : MapR w m es.toList kvs us hk) {j : Nat} (hj : j < kvs.length) (v : Value) :
  (Instr.entryStore m.t (.map (some b)) (.int .i64 (j : Int)) v).run P w = .ok () (setBlock w b (.map (es.modify j fun x => { x with val := v }) es.size)) := by
 have hi : es.findIdx? (fun x => (x.born : Int) == (j : Int)) = some j := by
  rw [show es = es.toList.toArray by simp, List.findIdx?_toArray]
  have := findIdx_born es.toList 0 j (fun i x hx => by
   obtain ⟨e0, kv, u, h1, h2, h3⟩ := hm.at (j := i) (by rw [← hm.len]; exact (List.getElem?_eq_some_iff.1 hx).1)
   rw [hx] at h1
   cases h1
   rw [Nat.zero_add]
   exact (hm.ent i x kv u hx h2 h3).1) (by rw [hm.len]; exact hj)
  rw [Nat.zero_add] at this;exact this
 simp [Instr.entryStore, MapKept.run_getObj_map hb, hi, MapKept.run_setObj_map _ hb, Result.andThen, setBlock, asInt, asIntOf]
end
end Vs

namespace Vs
open Go Go.RowKit Go.ChangeMaps
theorem Apart.set {us : List Value} (h : Apart us) {j : Nat} {v : Value} (hv : ∀ c, blkOf v = some c → ∀ u ∈ us, blkOf u ≠ some c) : Apart (us.set j v) := by
 intro i1 i2 u u' h1 h2 h3 c hc hc'
 by_cases e1 : j = i1
 ·subst e1
  rw [List.getElem?_set_ne h3] at h2;rw [List.getElem?_set] at h1;simp only [if_true] at h1;split at h1
  ·simp only [Option.some.injEq] at h1
   subst h1;exact hv c hc u' (List.mem_of_getElem? h2) hc'
  ·cases h1
 ·rw [List.getElem?_set_ne e1] at h1
  by_cases e2 : j = i2
  ·subst e2
   rw [List.getElem?_set] at h2;simp only [if_true] at h2;split at h2
   ·simp only [Option.some.injEq] at h2
    subst h2;exact hv c hc' u (List.mem_of_getElem? h1) hc
   ·cases h2
  ·rw [List.getElem?_set_ne e2] at h2
   exact h i1 i2 u u' h1 h2 h3 c hc hc'
theorem Apart.push {us : List Value} (h : Apart us) {v : Value} (hv : ∀ c, blkOf v = some c → ∀ u ∈ us, blkOf u ≠ some c) : Apart (us ++ [v]) := by
 have cut : ∀ {i : Nat} {u : Value}, (us ++ [v])[i]? = some u → us[i]? = some u ∨ (i = us.length ∧ u = v) := by
  intro i u hi
  rcases Nat.lt_or_ge i us.length with hlt | hge
  ·rw [List.getElem?_append_left hlt] at hi; exact .inl hi
  ·have := (List.getElem?_eq_some_iff.1 hi).1
   simp only [List.length_append, List.length_cons, List.length_nil] at this;have e : i = us.length := by omega
   subst e;simp at hi;exact .inr ⟨rfl, hi.symm⟩
 intro i1 i2 u u' h1 h2 h3 c hc hc'
 rcases cut h1 with g1 | ⟨e1, e2⟩
 ·rcases cut h2 with g2 | ⟨e3, e4⟩
  ·exact h i1 i2 u u' g1 g2 h3 c hc hc'
  ·rw [e4] at hc'
   exact hv c hc' u (List.mem_of_getElem? g1) hc
 ·rcases cut h2 with g2 | ⟨e3, e4⟩
  ·rw [e2] at hc
   exact hv c hc u' (List.mem_of_getElem? g2) hc'
  ·exact h3 (e1.trans e3.symm)
theorem push_key {ks : List Atom} {ns : List Int} {rest : List Push} {ρ ρ' : List D} (hks : KS ρ ks ns) (h : pushAll ((.mkagg, ks) :: rest) ρ = some ρ') : pushAll rest (ρ ++ [D.agg (ns.map D.int)]) = some ρ' := by
 rw [show (Prim.mkagg, ks) :: rest = [(Prim.mkagg, ks)] ++ rest from rfl, pushAll_append] at h
 obtain ⟨ρ1, q1, q2⟩ := Option.bind_eq_some_iff.1 h
 obtain ⟨d1, e1, rfl⟩ := pushAll_one q1
 rw [hks.evs] at e1
 simp only [Prim.ev, Option.some.injEq] at e1
 subst e1
 exact q2
theorem push_one {p : Prim} {xs : List Atom} {rest : List Push} {ρ ρ' : List D} (h : pushAll ((p, xs) :: rest) ρ = some ρ') : ∃ d, p.ev (evs ρ xs) = some d ∧ pushAll rest (ρ ++ [d]) = some ρ' := by
 rw [show (p, xs) :: rest = [(p, xs)] ++ rest from rfl, pushAll_append] at h
 obtain ⟨ρ1, q1, q2⟩ := Option.bind_eq_some_iff.1 h
 obtain ⟨d1, e1, rfl⟩ := pushAll_one q1
 exact ⟨d1, e1, q2⟩
section
variable {P : Program} {X : Nat → Prop} {M : Hand} {w0 w : World} {S : SS} {μ : Mu} {ρ : List D} {a : Act}
theorem makeMap_hop {o : Oper} {t : TypeId} {v : SV} {ps : List Push} {heap' : List SB} {tch : List Nat} {ρ' : List D} (ho : o.op = .makeMap t none) (hR : R X M w0 S μ ρ a w) (h : hopMakeMap P S t = .ok (v, ps, heap', tch)) (hp : pushAll ps ρ = some ρ') :
  HopOk P X M w0 S μ o a w ρ' v heap' tch := by
 unfold hopMakeMap at h
 obtain ⟨m, hm0, h1⟩ := bind_ok h
 simp only [Except.ok.injEq, Prod.mk.injEq] at h1
 obtain ⟨rfl, rfl, rfl, rfl⟩ := h1
 simp only [pushAll, Option.some.injEq] at hp
 subst hp
 have hr : (execOp a.eval o).run P w = .ok (.value (.map (some w.heap.size))) (w.alloc (.map #[] 0)) := by simp [execOp, ho, run_makeMap_plain]
 have hnew : ∀ b, (MV.mk (.map (some w.heap.size)) [[]]).own b → b = w.heap.size := by
  intro b hb
  rcases hb with hb | ⟨u, hu, _⟩
  ·simp only [blkOf, Option.some.injEq] at hb; omega
  ·simp [MV.inner] at hu
 have mv : Move S μ w [] (S.heap ++ [.map m 0 (.c (.lst [])) none]) (fun β => if β < S.heap.length then μ β else ⟨.map (some w.heap.size), [[]]⟩) (w.alloc (.map #[] 0)) :=
  Move.fresh (by simp) rfl (fun _ _ => rfl) (by simp) rfl rfl rfl (by simp) (fun b hb _ => alloc_old hb) (fun b hb => by left; rw [hnew b hb]; exact Nat.le_refl _)
 refine ⟨_, _, _, _, hr, .inl rfl, mv, fun β sb hb h => ?_, ?_⟩
 ·have hge : S.heap.length ≤ β := by
   rcases h with h | h
   ·simp at h
   ·exact h
  rw [List.getElem?_append_right hge] at hb;have hβ : β = S.heap.length := by have := (List.getElem?_eq_some_iff.1 hb).1;simp at this; omega
  subst hβ;simp only [Nat.sub_self, List.getElem?_cons_zero, Option.some.injEq] at hb;subst hb;simp only [Nat.lt_irrefl, if_false];refine ⟨rfl, fun b hb => .inl (by rw [hnew b hb]; exact hR.keeps.size), .lst [], none, rfl, trivial, w.heap.size, #[], [], rfl, (MapKept.heap_alloc w _).1, rfl, ?_, fun i j u u' hi => ?_, fun u hu => ?_⟩
  ·exact ⟨rfl, rfl, by simp, by simp, by simp⟩
  ·simp [MV.inner] at hi
  ·simp [MV.inner] at hu
 ·exact ⟨by simp, by simp, w.heap.size, by simp⟩
theorem map_facts (hR : R X M w0 S μ ρ a w) {β : Nat} {m : MPK} {ver : Nat} {d : Atom} {hole : Option Atom} (hb : S.heap[β]? = some (.map m ver d hole)) :
  (μ β).hist.length = ver + 1 ∧ ∃ b es kvs hk, (μ β).v = .map (some b) ∧ w.heap[b]? = some (.map es es.size) ∧ d.get ρ = some (mD kvs) ∧ HoleR ρ hole hk ∧ MapR w m es.toList kvs (μ β).inner hk ∧ Apart (μ β).inner ∧ ∀ u ∈ (μ β).inner, ∀ c, blkOf u = some c → c ≠ b := by
 obtain ⟨h0, _, d0, hk, h1, h2, b, es, kvs, h3, h4, rfl, h5, h6, h7⟩ := hR.blocks β _ hb
 exact ⟨h0, b, es, kvs, hk, h3, h4, h1, h2, h5, h6, h7⟩
theorem mapUpdate_hop {o : Oper} {t : TypeId} {p i q : Operand} {sx si sv v : SV} {ps : List Push} {heap' : List SB} {tch : List Nat} {ρ' : List D} (ho : o.op = .mapUpdate t p i q) (hR : R X M w0 S μ ρ a w)
  (hx : SVR w (Fz X S.heap μ w) S.heap.length μ ρ sx (a.eval p)) (hi : SVR w (Fz X S.heap μ w) S.heap.length μ ρ si (a.eval i)) (hq : SVR w (Fz X S.heap μ w) S.heap.length μ ρ sv (a.eval q))
  (h : hopMapUpdate P S t sx si sv = .ok (v, ps, heap', tch)) (hp : pushAll ps ρ = some ρ') : HopOk P X M w0 S μ o a w ρ' v heap' tch := by
 unfold hopMapUpdate at h
 obtain ⟨⟨β, m, ver, d, hole, ks⟩, h1, h2⟩ := bind_ok h
 obtain ⟨_, hb, rfl, ⟨e, hM⟩, hxv, ns, hiv, hks, hkl⟩ := mapAt_ok h1 hx hi
 dsimp only at h2
 split at h2
 case h_2 => cases h2
 rename_i bt bt' y hmv
 split at h2
 case isFalse => cases h2
 rename_i hbt
 subst hbt
 simp only [Except.ok.injEq, Prod.mk.injEq] at h2
 obtain ⟨rfl, rfl, rfl, rfl⟩ := h2
 obtain ⟨dv, hdv, hrd⟩ := hq
 obtain ⟨hlen, b, es, kvs, hk, hv, hg, hd0, hhole, hmr, hap, hnb⟩ := map_facts hR hb
 have hkn : hk = none := by cases hk with | none => rfl | some _ => exact hhole.elim
 subst hkn
 have hp1 := push_key hks hp
 obtain ⟨d2, e2, rfl⟩ := pushAll_one hp1
 have g1 : d.get (ρ ++ [D.agg (ns.map D.int)]) = some (mD kvs) := Atom.get_append hd0
 have g2 : (Atom.v S.n).get (ρ ++ [D.agg (ns.map D.int)]) = some (D.agg (ns.map D.int)) := get_new hR.len
 have g3 : y.get (ρ ++ [D.agg (ns.map D.int)]) = some dv := Atom.get_append hdv
 rw [evs_cons g1, evs_cons g2, evs_cons g3] at e2
 simp only [evs, List.map_nil, mD, Prim.ev] at e2
 split at e2
 case isFalse => cases e2
 rename_i hok
 have hr := kOk_inv hok
 simp only [Option.some.injEq] at e2
 have hvr : ValR w m.v (a.eval q) dv := by rw [hmv]; exact hrd
 have hvb : blkOf (a.eval q) = none := RdB_blk hrd
 have hvn : ∀ c, blkOf (a.eval q) = some c → ∀ u ∈ (μ β).inner, blkOf u ≠ some c := fun c hc => by rw [hvb] at hc; cases hc
 have hgn : (Atom.v (S.n + 1)).get (ρ ++ [D.agg (ns.map D.int)] ++ [d2]) = some d2 := get_new (by simp [hR.len])
 rw [List.append_assoc] at hgn ⊢
 have hush : ∀ (us' : List Value), (∀ y ∈ us', y ∈ (μ β).inner ∨ y = a.eval q) → ∀ y ∈ us', ∀ c, blkOf y = some c → c ≠ b ∧ ((μ β).own c ∨ ∃ γ ∈ ([] : List Nat), (μ γ).own c) := by
  intro us' hs y hy c hc
  rcases hs y hy with h | rfl
  ·exact ⟨hnb y h c hc, .inl (.inr ⟨y, h, hc⟩)⟩
  ·rw [hvb] at hc; cases hc
 rcases run_update hM hg hmr hkl hr (a.eval q) with ⟨q1, q2⟩ | ⟨j, e0, kv, q1, q2, q3, q4⟩
 ·rw [mput_no q2] at e2
  refine map_hop (ts := []) (u := Go.undef) (nx := .skip) (es' := es.push ⟨kVal ns, a.eval q, es.size⟩) (us' := (μ β).inner ++ [a.eval q]) hR hb hv hg ?_ (.inr ⟨rfl, rfl⟩) (by simp) (by rw [hgn, ← e2]; rfl) ?_ (hap.push hvn) (hush _ fun y hy => by simpa using hy) (fun _ _ _ _ _ _ => trivial)
  ·simp [execOp, ho, hxv, hiv, hv, q1]
  ·have := hmr.push hkl hr q2 hvr
   simpa using this
 ·rw [mput_at hmr.nodup q3 q4] at e2
  refine map_hop (ts := []) (u := Go.undef) (nx := .skip) (es' := es.modify j fun x => { x with key := kVal ns, val := a.eval q }) (us' := (μ β).inner.set j (a.eval q)) hR hb hv hg ?_ (.inr ⟨rfl, rfl⟩) (by simp) (by rw [hgn, ← e2]; rfl) ?_ (hap.set hvn) (hush _ fun y hy => List.mem_or_eq_of_mem_set hy) (fun _ _ _ _ _ _ => trivial)
  ·simp [execOp, ho, hxv, hiv, hv, q1]
  ·have := hmr.set q2 q3 (.inl rfl) hvr
   rw [modify_toList es q2];rw [q4] at this;exact this
theorem mapEntry_hop {o : Oper} {t : TypeId} {p i : Operand} {sx si v : SV} {ps : List Push} {heap' : List SB} {tch : List Nat} {ρ' : List D} (ho : o.op = .mapEntry t p i) (hR : R X M w0 S μ ρ a w)
  (hx : SVR w (Fz X S.heap μ w) S.heap.length μ ρ sx (a.eval p)) (hi : SVR w (Fz X S.heap μ w) S.heap.length μ ρ si (a.eval i))
  (h : hopMapEntry P S t sx si = .ok (v, ps, heap', tch)) (hp : pushAll ps ρ = some ρ') : HopOk P X M w0 S μ o a w ρ' v heap' tch := by
 unfold hopMapEntry at h
 obtain ⟨⟨β, m, ver, d, hole, ks⟩, h1, h2⟩ := bind_ok h
 obtain ⟨_, hb, rfl, ⟨e, hM⟩, hxv, ns, hiv, hks, hkl⟩ := mapAt_ok h1 hx hi
 cases hole with
 | some _ => cases h2
 | none =>
 dsimp only at h2
 obtain ⟨zd, hz1, h3⟩ := bind_ok h2
 have hzd := need_ok hz1
 simp only [Except.ok.injEq, Prod.mk.injEq] at h3
 obtain ⟨rfl, rfl, rfl, rfl⟩ := h3
 obtain ⟨hlen, b, es, kvs, hk, hv, hg, hd0, hhole, hmr, hap, hnb⟩ := map_facts hR hb
 have hkn : hk = none := by cases hk with | none => rfl | some _ => exact hhole.elim
 subst hkn
 have hβ : β < S.heap.length := (List.getElem?_eq_some_iff.1 hb).1
 obtain ⟨z, hz, hzv, hzb⟩ : ∃ z, (∀ w, (zeroValue e).run P w = .ok z w) ∧ ValR w m.v z zd ∧ blkOf z = none := by
  cases hmv : m.v with
  | b bt =>
   rw [hmv] at hzd;obtain ⟨z, d', q1, q2, q3⟩ := hM.zb bt hmv;simp only [zeroMT] at hzd;rw [hzd] at q1
   cases q1
   exact ⟨z, q2, q3, RdB_blk q3⟩
  | s et e' =>
   rw [hmv] at hzd;obtain ⟨q1, _⟩ := hM.zs et e' hmv;simp only [zeroMT, Option.some.injEq] at hzd;subst hzd;exact ⟨_, q1, ⟨0, [], [], ⟨by simp, .inl ⟨rfl, rfl⟩⟩, rfl, rfl, rfl⟩, rfl⟩
 have hp1 := push_key hks hp
 obtain ⟨d2, e2, hp2⟩ := push_one hp1
 obtain ⟨d3, e3, hp3⟩ := push_one hp2
 obtain ⟨d4, e4, rfl⟩ := pushAll_one hp3
 have g1 : d.get (ρ ++ [D.agg (ns.map D.int)]) = some (mD kvs) := Atom.get_append hd0
 have g2 : (Atom.v S.n).get (ρ ++ [D.agg (ns.map D.int)]) = some (D.agg (ns.map D.int)) := get_new hR.len
 have g3 : (Atom.c zd).get (ρ ++ [D.agg (ns.map D.int)]) = some zd := rfl
 rw [evs_cons g1, evs_cons g2, evs_cons g3] at e2
 simp only [evs, List.map_nil, mD, Prim.ev] at e2
 split at e2
 case isFalse => cases e2
 rename_i hok
 obtain ⟨hok, hmok⟩ := hok
 have hr := kOk_inv hok
 simp only [Option.some.injEq] at e2
 have fin : ∀ (kvs' : List (List Int × D)) (j : Nat) (kv : List Int × D), d2 = mD kvs' → (kvs'.map (·.1)).Nodup → kvs'[j]? = some kv → kv.1 = ns → d3 = kv.2 ∧ d4 = .int (j : Int) := by
  intro kvs' j kv hd2 hn hj hkv;subst hd2;have k1 : (Atom.v (S.n + 1)).get (ρ ++ [D.agg (ns.map D.int)] ++ [mD kvs']) = some (mD kvs') := get_new (by simp [hR.len])
  have k2 : (Atom.v S.n).get (ρ ++ [D.agg (ns.map D.int)] ++ [mD kvs']) = some (D.agg (ns.map D.int)) := Atom.get_append g2;have k3 : (Atom.c zd).get (ρ ++ [D.agg (ns.map D.int)] ++ [mD kvs']) = some zd := rfl;rw [evs_cons k1, evs_cons k2, evs_cons k3] at e3;simp only [evs, List.map_nil, mD, Prim.ev] at e3;rw [if_pos hok, mfind_at hn hj hkv] at e3;simp only [Option.getD_some, Option.some.injEq] at e3;rw [evs_cons (Atom.get_append k1), evs_cons (Atom.get_append k2)] at e4;simp only [evs, List.map_nil, mD, Prim.ev] at e4;rw [if_pos hok, mwhere_at hn hj hkv] at e4;simp only [Option.map_some, Option.some.injEq] at e4;exact ⟨e3.symm, e4.symm⟩
 have gm : (Atom.v (S.n + 1)).get (ρ ++ [D.agg (ns.map D.int)] ++ [d2] ++ [d3] ++ [d4]) = some d2 := Atom.get_append (Atom.get_append (get_new (by simp [hR.len])))
 have gv : (Atom.v (S.n + 2)).get (ρ ++ [D.agg (ns.map D.int)] ++ [d2] ++ [d3] ++ [d4]) = some d3 := Atom.get_append (get_new (by simp [hR.len]))
 have gi : (Atom.v (S.n + 3)).get (ρ ++ [D.agg (ns.map D.int)] ++ [d2] ++ [d3] ++ [d4]) = some d4 := get_new (by simp [hR.len])
 have e5 : ρ ++ [D.agg (ns.map D.int)] ++ [d2] ++ [d3] ++ [d4] = ρ ++ [D.agg (ns.map D.int), d2, d3, d4] := by simp
 rw [e5] at gm gv gi ⊢
 have tup : ∀ (us' : List Value) (kvs' : List (List Int × D)) (j : Nat) (kv : List Int × D) (u : Value) (μ1 : Mu) (F : Nat → Prop) (w1 : World), d2 = mD kvs' → d3 = kv.2 → d4 = .int (j : Int) → us'.length = kvs'.length → kvs'[j]? = some kv → us'[j]? = some u → ValR w m.v u kv.2 →
   (μ1 β).hist = (μ β).hist ++ [us'] → SVR w1 F S.heap.length μ1 (ρ ++ [D.agg (ns.map D.int), d2, d3, d4]) (.tup [(false, [.s (entVal m.v β (ver + 1) S.n)]), (false, [.s (.dat (.b (.int .i64)) (.v (S.n + 3)))])]) (.tuple #[u, .int .i64 (j : Int)]) := by
  intro us' kvs' j kv u μ1 F w1 h2 h3 h4 hl hj hu hvr hh;refine ⟨_, rfl, ⟨_, rfl, ?_⟩, ⟨_, rfl, d4, gi, (j : Int), rfl, h4⟩, trivial⟩
  cases hmv : m.v with
  | b bt =>
   rw [hmv] at hvr;exact ⟨d3, gv, by rw [h3]; exact hvr⟩
  | s et e' =>
   rw [hmv] at hvr;obtain ⟨n, xs, l, r1, _⟩ := hvr;obtain ⟨ad, cap, r2⟩ := ownsRow_slice r1;refine ⟨hβ, us', ?_, kvs', j, kv, by rw [← h2]; exact gm, hl, by rw [← h4]; exact gi, hj, hu, by rw [← h3]; exact gv, ad, n, cap, r2⟩
   rw [hh, List.getElem?_append_right (by omega)]
   simp [hlen]
 have hush : ∀ (us' : List Value), (∀ y ∈ us', y ∈ (μ β).inner ∨ y = z) → ∀ y ∈ us', ∀ c, blkOf y = some c → c ≠ b ∧ ((μ β).own c ∨ ∃ γ ∈ ([] : List Nat), (μ γ).own c) := by
  intro us' hs y hy c hc
  rcases hs y hy with h | rfl
  ·exact ⟨hnb y h c hc, .inl (.inr ⟨y, h, hc⟩)⟩
  ·rw [hzb] at hc; cases hc
 rcases run_entry hM hg hmr hz hkl hr with ⟨q1, q2⟩ | ⟨j, e0, kv, q1, q2, q3, q4⟩
 ·rw [mfind_no q2, Option.getD_none, mput_no q2] at e2
  have hmr2 := hmr.push hkl hr q2 hzv;have hjl : (kvs ++ [(ns, zd)])[kvs.length]? = some (ns, zd) := by simp
  obtain ⟨f1, f2⟩ := fin (kvs ++ [(ns, zd)]) kvs.length (ns, zd) e2.symm hmr2.nodup hjl rfl;refine map_hop (ts := []) (u := .tuple #[z, .int .i64 (es.size : Int)]) (nx := .value _) (es' := es.push ⟨kVal ns, z, es.size⟩) (us' := (μ β).inner ++ [z]) hR hb hv hg ?_ (.inl rfl) (by simp) (by rw [gm, ← e2]; rfl) (by simpa using hmr2)
   (hap.push fun c hc => by rw [hzb] at hc; cases hc) (hush _ fun y hy => by simpa using hy) (fun μ1 F w1 _ _ hh => ?_)
  ·simp [execOp, ho, hxv, hiv, hv, q1]
  ·have hsz : es.size = kvs.length := by simpa using hmr.len
   rw [hsz];refine tup _ (kvs ++ [(ns, zd)]) kvs.length (ns, zd) z μ1 F w1 e2.symm f1 f2 (by simp [hmr.ulen]) hjl ?_ hzv hh
   rw [← hmr.ulen]; simp
 ·rw [mfind_at hmr.nodup q3 q4, Option.getD_some, mput_at hmr.nodup q3 q4] at e2
  obtain ⟨p1, p2, p3, p4⟩ := hmr.val q2 q3;have hmr2 := hmr.set q2 q3 (.inl rfl) p2;have hjlt : j < kvs.length := (List.getElem?_eq_some_iff.1 q3).1;have hjl : (kvs.set j (ns, kv.2))[j]? = some (ns, kv.2) := List.getElem?_set_self hjlt;rw [q4] at hmr2;obtain ⟨f1, f2⟩ := fin (kvs.set j (ns, kv.2)) j (ns, kv.2) e2.symm hmr2.nodup hjl rfl;refine map_hop (ts := []) (u := .tuple #[e0.val, .int .i64 (e0.born : Int)]) (nx := .value _) (es' := es.modify j fun x => { x with key := kVal ns }) (us' := (μ β).inner.set j e0.val) hR hb hv hg ?_ (.inl rfl) (by simp) (by rw [gm, ← e2]; rfl) ?_
   ?_ (hush _ fun y hy => ?_) (fun μ1 F w1 _ _ hh => ?_)
  ·simp [execOp, ho, hxv, hiv, hv, q1]
  ·rw [modify_toList es q2]
   exact hmr2
  ·have e6 : (μ β).inner.set j e0.val = (μ β).inner := by
    apply List.ext_getElem?;intro i;rw [List.getElem?_set];split
    ·rename_i hji
     subst hji;rw [if_pos (by rw [hmr.ulen]; exact hjlt), p1]
    ·rfl
   rw [e6]; exact hap
  ·rcases List.mem_or_eq_of_mem_set hy with h | rfl
   ·exact .inl h
   ·exact .inl (List.mem_of_getElem? p1)
  ·rw [p3]
   exact tup _ (kvs.set j (ns, kv.2)) j (ns, kv.2) e0.val μ1 F w1 e2.symm f1 f2 (by simp [hmr.ulen]) hjl (List.getElem?_set_self (by rw [hmr.ulen]; exact hjlt)) p2 hh
theorem kvF_set (kvs : List (List Int × D)) (j : Nat) (k : List Int) (d : D) : (kvs.map kvF).set j (.agg [.agg (k.map D.int), d]) = (kvs.set j (k, d)).map kvF := by rw [List.map_set]
theorem entryStore_hop {o : Oper} {t : TypeId} {p i q : Operand} {sx si sv v : SV} {ps : List Push} {heap' : List SB} {tch : List Nat} {ρ' : List D} (ho : o.op = .entryStore t p i q) (hR : R X M w0 S μ ρ a w)
  (hx : SVR w (Fz X S.heap μ w) S.heap.length μ ρ sx (a.eval p)) (hi : SVR w (Fz X S.heap μ w) S.heap.length μ ρ si (a.eval i)) (hq : SVR w (Fz X S.heap μ w) S.heap.length μ ρ sv (a.eval q))
  (h : hopEntryStore P S t sx si sv = .ok (v, ps, heap', tch)) (hp : pushAll ps ρ = some ρ') : HopOk P X M w0 S μ o a w ρ' v heap' tch := by
 unfold hopEntryStore at h
 split at h
 case h_2 => cases h
 rename_i β j
 split at h
 case h_2 => cases h
 rename_i m ver d hole hb
 split at h
 case isFalse => cases h
 rename_i hmt
 obtain ⟨rfl, e, hM⟩ := mpOf_ok hmt
 obtain ⟨_, hxv, _⟩ := hx
 obtain ⟨n0, hiv, hj⟩ := rd_int hi
 obtain ⟨hlen, b, es, kvs, hk, hv, hg, hd0, hhole, hmr, hap, hnb⟩ := map_facts hR hb
 have step : ∀ {y : Atom} {dv : D}, y.get ρ = some dv → pushAll [(Prim.mseti, [d, j, y])] ρ = some ρ' → ∃ (n : Nat) (kv : List Int × D), n0 = n ∧ kvs[n]? = some kv ∧ ρ' = ρ ++ [mD (kvs.set n (kv.1, dv))] := by
  intro y dv hy hp;obtain ⟨d2, e2, rfl⟩ := pushAll_one hp;rw [evs_cons hd0, evs_cons hj, evs_cons hy] at e2;simp only [evs, List.map_nil, mD, Prim.ev, List.getElem?_map] at e2
  cases hn : kvs[n0.toNat]? with
  | none => rw [hn] at e2; cases e2
  | some kv =>
   rw [hn] at e2;simp only [Option.map_some] at e2;split at e2
   ·rename_i h0
    simp only [Option.some.injEq] at e2;refine ⟨n0.toNat, kv, by omega, hn, ?_⟩
    rw [← e2];have := kvF_set kvs n0.toNat kv.1 dv;simp only [mD];rw [← this]
   ·cases e2
 have ent : ∀ {n : Nat} {kv : List Int × D}, kvs[n]? = some kv → ∃ e0, es.toList[n]? = some e0 ∧ e0.key = kVal kv.1 := by
  intro n kv hn;obtain ⟨e0, kv', u, g1, g2, g3⟩ := hmr.at (j := n) (List.getElem?_eq_some_iff.1 hn).1;rw [hn] at g2
  cases g2
  exact ⟨e0, g1, (hmr.ent n e0 kv u g1 hn g3).2.1⟩
 have stored : ∀ {n : Nat} {kv : List Int × D} {e0 : MapEntry} (u : Value), es.toList[n]? = some e0 → e0.key = kVal kv.1 → (es.modify n fun x => { x with val := u }).toList = es.toList.set n { e0 with key := kVal kv.1, val := u } := by intro n kv e0 u h1 h2;rw [modify_toList es h1, ← h2]
 split at h
 ·rename_i bt bt' y hmv
  split at h
  case isFalse => cases h
  rename_i hbt;subst hbt;simp only [Except.ok.injEq, Prod.mk.injEq] at h;obtain ⟨rfl, rfl, rfl, rfl⟩ := h;obtain ⟨dv, hdv, hrd⟩ := hq;have hkn : hk = none := by cases hk with | none => rfl | some _ => exact hhole.elim
  subst hkn;obtain ⟨n, kv, rfl, hn, rfl⟩ := step hdv hp;obtain ⟨e0, g1, g2⟩ := ent hn;have hvb : blkOf (a.eval q) = none := RdB_blk hrd;refine map_hop (ts := []) (u := Go.undef) (nx := .skip) (es' := es.modify n fun x => { x with val := a.eval q }) (us' := (μ β).inner.set n (a.eval q)) hR hb hv hg ?_ (.inr ⟨rfl, rfl⟩) (by simp) (get_new hR.len) ?_
   (hap.set fun c hc => by rw [hvb] at hc; cases hc) (fun y hy c hc => ?_) (fun _ _ _ _ _ _ => trivial)
  ·have := run_entryStore (P := P) (m := m) hg hmr (List.getElem?_eq_some_iff.1 hn).1 (a.eval q)
   simp [execOp, ho, hxv, hiv, hv, this]
  ·rw [stored _ g1 g2]
   exact hmr.set g1 hn (.inl rfl) (by rw [hmv]; exact hrd)
  ·rcases List.mem_or_eq_of_mem_set hy with h | rfl
   ·exact ⟨hnb y h c hc, .inl (.inr ⟨y, h, hc⟩)⟩
   ·rw [hvb] at hc; cases hc
 ·rename_i k et e' γ hmv
  split at h
  case h_2 => cases h
  rename_i et' e'' y hγ;split at h
  case isFalse => cases h
  rename_i hc;obtain ⟨hne, hal, rfl, rfl⟩ := hc;simp only [Except.ok.injEq, Prod.mk.injEq] at h;obtain ⟨rfl, rfl, rfl, rfl⟩ := h;obtain ⟨_, hqv, _⟩ := hq;obtain ⟨c0, k0, xs, l, c1, _, c2, c3, c4⟩ := hR.blocks γ _ hγ;obtain ⟨n, kv, rfl, hn, rfl⟩ := step c2 hp;obtain ⟨e0, g1, g2⟩ := ent hn;have hkn : hk = some n := by
   cases hk with
   | none => exact hhole.elim
   | some n' =>
    have h1 : k.get ρ = some (.int (n' : Int)) := hhole;rw [alike_get hal, hj] at h1;simp only [Option.some.injEq, D.int.injEq] at h1
    congr 1; omega
  subst hkn;have hβl : live S.heap β := ⟨_, hb, by simp⟩
  have hγl : live S.heap γ := ⟨_, hγ, by simp⟩
  have hγown : ∀ c, (μ γ).own c ↔ blkOf (μ γ).v = some c := fun c => MV.own_flat c0
  have hdis : ∀ c, blkOf (μ γ).v = some c → ¬ (μ β).own c := fun c hc ho => hR.inj β γ hβl hγl (fun e => hne e.symm) c ho ((hγown c).2 hc)
  refine map_hop (ts := [γ]) (u := Go.undef) (nx := .skip) (es' := es.modify n fun x => { x with val := a.eval q }) (us' := (μ β).inner.set n (a.eval q)) hR hb hv hg ?_ (.inr ⟨rfl, rfl⟩) (fun δ hδ => ?_) (get_new hR.len) ?_ (hap.set fun c hc u hu he => ?_) (fun y hy c hc => ?_) (fun _ _ _ _ _ _ => trivial)
  ·have := run_entryStore (P := P) (m := m) hg hmr (List.getElem?_eq_some_iff.1 hn).1 (a.eval q)
   simp [execOp, ho, hxv, hiv, hv, this]
  ·simp only [List.mem_singleton] at hδ
   subst hδ;exact ⟨hne, _, hγ, rfl⟩
  ·rw [stored _ g1 g2]
   refine hmr.set g1 hn (.inr rfl) ?_;rw [hmv, hqv];exact ⟨k0, xs, l, c1, rfl, c3, c4⟩
  ·rw [hqv] at hc
   exact hdis c hc (.inr ⟨u, hu, he⟩)
  ·rcases List.mem_or_eq_of_mem_set hy with h | rfl
   ·exact ⟨hnb y h c hc, .inl (.inr ⟨y, h, hc⟩)⟩
   ·rw [hqv] at hc
    exact ⟨fun e => hdis c hc (.inl (by rw [hv, e]; rfl)), .inr ⟨γ, by simp, (hγown c).2 hc⟩⟩
 ·cases h
theorem appendM_hop {o : Oper} {s x : Operand} {t : TypeId} {args : Array Operand} {ats : Array TypeId} {β ver : Nat} {d j y : Atom} {sb v : SV} {ps : List Push} {heap' : List SB} {tch : List Nat} {ρ' : List D} (ho : o.op = .call { callee := .builtin .append, args := args, argTypes := ats })
  (hargs : args.toList = [s, x]) (hat : ats.toList = [t, t]) (hR : R X M w0 S μ ρ a w) (h1 : SVR w (Fz X S.heap μ w) S.heap.length μ ρ (.c (.s (.ment β ver d j y))) (a.eval s)) (h2 : SVR w (Fz X S.heap μ w) S.heap.length μ ρ sb (a.eval x))
  (h : hopAppendM P S t β ver d j y sb = .ok (v, ps, heap', tch)) (hp : pushAll ps ρ = some ρ') : HopOk P X M w0 S μ o a w ρ' v heap' tch := by
 unfold hopAppendM at h
 obtain ⟨k, hk0, h3⟩ := bind_ok h
 have hk := need_ok hk0
 split at h3
 case h_2 => cases h3
 rename_i m ver0 x0 hole0 et e u0 e' hb0 hnow
 split at h3
 case isFalse => cases h3
 rename_i hc
 obtain ⟨rfl, rfl⟩ := hc
 obtain ⟨z, hz, h4⟩ := bind_ok h3
 simp only [Except.ok.injEq, Prod.mk.injEq] at h4
 obtain ⟨rfl, rfl, rfl, rfl⟩ := h4
 clear h h3
 rcases mkOf_ok hk with ⟨et1, e1, hke, ht, hel⟩ | ⟨et1, e2, e1, hke, _, _⟩
 case inr => cases hke
 cases hke
 obtain ⟨i, zv, hE⟩ := elemOk_ok hel
 unfold mapNow at hnow
 rw [hb0] at hnow
 split at hnow
 case h_2 => cases hnow
 rename_i m' ver' d' hbe
 simp only [Option.some.injEq, SB.map.injEq] at hbe
 obtain ⟨rfl, rfl, rfl, rfl⟩ := hbe
 split at hnow
 case isFalse => cases hnow
 rename_i hcc
 obtain ⟨rfl, hal⟩ := hcc
 split at hnow
 case h_2 => cases hnow
 rename_i et2 e2 hmv
 simp only [Option.some.injEq, Prod.mk.injEq] at hnow
 obtain ⟨h5, h6⟩ := hnow
 have h5 := h5.symm
 have h6 := h6.symm
 subst h5 h6
 have hb := hb0
 obtain ⟨hlen, b, es, kvs, hk', hv, hg, hd0, hhole, hmr, hap, hnb⟩ := map_facts hR hb
 have hkn : hk' = none := by cases hk' with | none => rfl | some _ => exact hhole.elim
 subst hkn
 obtain ⟨hβ, l, hl, kvs', n, kv, q1, q2, q3, q4, q5, q6, _⟩ := h1
 rw [MV.hist_last hlen] at hl
 simp only [Option.some.injEq] at hl
 subst hl
 rw [alike_get hal, hd0] at q1
 have := mD_inj (Option.some.inj q1)
 subst this
 have hnlt : n < kvs.length := (List.getElem?_eq_some_iff.1 q4).1
 have hnu : n < (μ β).inner.length := by rw [hmr.ulen]; exact hnlt
 obtain ⟨e0, g1⟩ : ∃ e0, es.toList[n]? = some e0 := ⟨_, List.getElem?_eq_getElem (by rw [hmr.len]; exact hnlt)⟩
 obtain ⟨p1, p2, _, _⟩ := hmr.val g1 q4
 rw [q5] at p1
 simp only [Option.some.injEq] at p1
 rw [← p1, hmv] at p2
 obtain ⟨n0, xs, ls, r1, r2, r3, r4⟩ := p2
 have hmemv : a.eval s ∈ (μ β).inner := List.mem_of_getElem? q5
 obtain ⟨dz, hdz, hrz⟩ : ∃ dz, z.get ρ = some dz ∧ ∃ F, RdSl w F (rr1 et) et.agg (a.eval x) dz := by
  unfold mapNews at hz;split at hz
  ·split at hz
   ·rename_i het
    subst het;simp only [Except.ok.injEq] at hz;subst hz;obtain ⟨dd, g1, g2⟩ := h2;exact ⟨dd, g1, _, g2⟩
   ·cases hz
  ·split at hz
   ·rename_i et' e'' y' hγ
    split at hz
    ·rename_i het
     subst het;simp only [Except.ok.injEq] at hz;subst hz;obtain ⟨_, hxv, _⟩ := h2;obtain ⟨dd, g1, g2⟩ := own_read (F := fun _ => True) hR (fun _ _ => trivial) (fun _ _ => trivial) hγ
     rw [← hxv] at g2;exact ⟨dd, g1, _, g2⟩
    ·cases hz
   ·cases hz
  ·cases hz
 obtain ⟨F0, hrz⟩ := hrz
 obtain ⟨mm, news, ks, hnews, rfl, hks, hrd, hnl⟩ := news_of hrz
 obtain ⟨d2, e2', rfl⟩ := pushAll_one hp
 simp only [evs, List.map_cons, List.map_nil, Atom.ev_of_get q6, Atom.ev_of_get hdz, r2, Prim.ev, List.length_map] at e2'
 split at e2'
 case isFalse => cases e2'
 rename_i hmax
 simp only [Option.some.injEq] at e2'
 obtain ⟨v', w', run1, own1, grow1, from1⟩ := run_app (P := P) (ty := o.type) (z := zv) ht hE.info hE.zero hE.zs hE.pos hE.bytes (by rw [hE.size]; exact r1) (by rw [hE.size]; exact hnl) hnews (RdRow_one hrd) (by omega)
 rw [hE.size] at own1
 obtain ⟨ad, cap, esl⟩ := ownsRow_slice r1
 rw [ownBlock_blk esl] at grow1
 let nil : Value := .slice none 0 0
 let μ' : Mu := fun δ => if δ = β then ⟨(μ β).v, (μ β).hist ++ [(μ β).inner.set n nil]⟩ else if δ < S.heap.length then μ δ else MV.one v'
 have hin : (μ' β).inner = (μ β).inner.set n nil := by simp [μ', MV.inner]
 have hμv : (μ' β).v = (μ β).v := by simp [μ']
 have hnew : μ' S.heap.length = MV.one v' := by
  show (if S.heap.length = β then _ else _) = _
  rw [if_neg (by omega), if_neg (by omega)]
 have hbb : blkOf (μ β).v = some b := by rw [hv]; rfl
 have hnilb : blkOf nil = none := rfl
 have hmem : ∀ u ∈ (μ β).inner.set n nil, ∀ c, blkOf u = some c → ∃ i, i ≠ n ∧ (μ β).inner[i]? = some u := by
  intro u hu c hc;obtain ⟨i, hi⟩ := List.getElem?_of_mem hu
  by_cases he : n = i
  ·subst he
   rw [List.getElem?_set_self hnu] at hi;simp only [Option.some.injEq] at hi;rw [← hi, hnilb] at hc
   cases hc
  ·rw [List.getElem?_set_ne he] at hi
   exact ⟨i, fun e => he e.symm, hi⟩
 have hown' : ∀ c, (μ' β).own c → (μ β).own c := by
  intro c hc
  rcases hc with hc | ⟨u, hu, hc⟩
  ·rw [hμv] at hc; exact .inl hc
  ·rw [hin] at hu
   obtain ⟨i, _, hi⟩ := hmem u hu c hc;exact .inr ⟨u, List.mem_of_getElem? hi, hc⟩
 have hapart : ∀ c, (μ' β).own c → blkOf (a.eval s) ≠ some c := by
  intro c hc he
  rcases hc with hc | ⟨u, hu, hc⟩
  ·rw [hμv, hbb] at hc
   simp only [Option.some.injEq] at hc;exact hnb _ hmemv c he hc.symm
  ·rw [hin] at hu
   obtain ⟨i, hne, hi⟩ := hmem u hu c hc;exact hap i n u _ hi q5 hne c hc he
 have hkeepb : ∀ k, k < w.heap.size → blkOf (a.eval s) ≠ some k → w'.heap[k]? = w.heap[k]? := fun k hk hne => grow1.block k hk (fun e => hne e.symm)
 have hlast : ∀ δ, δ < (S.heap.set β (.map m (ver + 1) d (some j)) ++ [SB.row (.s1 et) e (.v S.n)]).length → δ = β ∨ δ < S.heap.length ∧ δ ≠ β ∨ δ = S.heap.length := by intro δ hδ;simp only [List.length_append, List.length_set, List.length_cons, List.length_nil] at hδ;omega
 have hgetβ : (S.heap.set β (.map m (ver + 1) d (some j)) ++ [SB.row (.s1 et) e (.v S.n)])[β]? = some (.map m (ver + 1) d (some j)) := by rw [List.getElem?_append_left (by simpa using hβ), List.getElem?_set_self hβ]
 have hgetn : (S.heap.set β (.map m (ver + 1) d (some j)) ++ [SB.row (.s1 et) e (.v S.n)])[S.heap.length]? = some (.row (.s1 et) e (.v S.n)) := by
  rw [List.getElem?_append_right (by simp)]
  simp
 have hone : ∀ c, (MV.one v').own c ↔ blkOf v' = some c := fun c => MV.own_flat rfl
 have hnewown : ∀ c, (μ' S.heap.length).own c → w.heap.size ≤ c ∨ blkOf (a.eval s) = some c := by intro c hc;rw [hnew] at hc;exact from1 c ((hone c).1 hc)
 have hβsz : ∀ c, (μ β).own c → c < w.heap.size := fun c hc => hR.own_lt ⟨_, hb, by simp⟩ hc
 have hcross : ∀ c, (μ' β).own c → ¬ (μ' S.heap.length).own c := by
  intro c h1 h2
  rcases hnewown c h2 with h3 | h3
  ·have := hβsz c (hown' c h1); omega
  ·exact hapart c h1 h3
 have cases2 : ∀ δ, live (S.heap.set β (.map m (ver + 1) d (some j)) ++ [SB.row (.s1 et) e (.v S.n)]) δ → (δ ∈ [β] ∨ S.heap.length ≤ δ) → δ = β ∨ δ = S.heap.length := by
  intro δ hlv h;have := live_lt hlv
  rcases hlast δ this with h1 | ⟨h1, h2⟩ | h1
  ·exact .inl h1
  ·rcases h with h | h
   ·exact .inl (by simpa using h)
   ·omega
  ·exact .inr h1
 have mv : Move S μ w [β] (S.heap.set β (.map m (ver + 1) d (some j)) ++ [SB.row (.s1 et) e (.v S.n)]) μ' w' := by
  refine ⟨fun δ hδ => ?_, by simp, fun δ hδ hn => ?_, fun δ hδ => ?_, grow1.os, grow1.tape, grow1.output, grow1.size, fun k hk hn => ?_, fun δ hlv h c hc => ?_, fun δ ε h1 h2 h3 h4 h5 c hc => ?_⟩
  ·simp only [List.mem_singleton] at hδ
   subst hδ;exact ⟨_, hb, rfl⟩
  ·simp only [List.mem_singleton] at hn
   refine ⟨by rw [List.getElem?_append_left (by simpa using hδ), List.getElem?_set_ne (fun e => hn e.symm)], ?_⟩
   show (if δ = β then _ else _) = _
   rw [if_neg hn, if_pos hδ]
  ·by_cases he : δ = β
   ·subst he; exact ⟨hμv, [(μ δ).inner.set n nil], by simp [μ']⟩
   ·have : μ' δ = μ δ := by
     show (if δ = β then _ else _) = _
     rw [if_neg he, if_pos hδ]
    rw [this]; exact ⟨rfl, [], by simp⟩
  ·exact hkeepb k hk fun e => hn β (by simp) (.inr ⟨_, hmemv, e⟩)
  ·rcases cases2 δ hlv h with rfl | rfl
   ·exact .inr ⟨δ, by simp, hown' c hc⟩
   ·rcases hnewown c hc with h3 | h3
    ·exact .inl h3
    ·exact .inr ⟨β, by simp, .inr ⟨_, hmemv, h3⟩⟩
  ·rcases cases2 δ h1 h3 with rfl | rfl <;> rcases cases2 ε h2 h4 with rfl | rfl
   ·exact absurd rfl h5
   ·exact hcross c hc
   ·exact fun h => hcross c h hc
   ·exact absurd rfl h5
 have hgd : d.get (ρ ++ [d2]) = some (mD kvs) := Atom.get_append (by rw [alike_get hal]; exact hd0)
 refine ⟨_, v', μ', w', app_run ho hargs hat run1, .inl rfl, mv, fun δ sb' hδ h => ?_, ?_⟩
 ·rcases hlast δ (List.getElem?_eq_some_iff.1 hδ).1 with rfl | ⟨g2, g3⟩ | rfl
  ·rw [hgetβ] at hδ
   simp only [Option.some.injEq] at hδ;subst hδ;obtain ⟨_, hmine, _⟩ := hR.blocks δ _ hb;refine ⟨by simp [μ', hlen], fun c hc => hmine c (hown' c hc), mD kvs, some n, hgd, Atom.get_append q3, b, es, kvs, by rw [hμv]; exact hv, ?_, rfl, ?_, ?_, fun u hu c hc => ?_⟩
   ·rw [hkeepb b (hβsz b (.inl hbb)) fun e => hapart b (.inl (by rw [hμv]; exact hbb)) e]
    exact hg
   ·rw [hin]
    refine ⟨hmr.len, by simp [hmr.ulen], hmr.nodup, hmr.key, fun i e1 kv1 u1 k1 k2 k3 => ?_⟩
    obtain ⟨b1, b2, b3, b4⟩ := hmr.val k1 k2
    by_cases he : n = i
    ·subst he
     rw [List.getElem?_set_self hnu] at k3;simp only [Option.some.injEq] at k3;exact ⟨b3, b4, fun _ => k3.symm, fun hc => absurd rfl hc⟩
    ·rw [List.getElem?_set_ne he, b1] at k3
     simp only [Option.some.injEq] at k3;subst k3;refine ⟨b3, b4, fun hc => absurd (Option.some.inj hc) he, fun _ => ⟨rfl, b2.kept fun c hc => ?_⟩⟩
     refine hkeepb c (ValR_lt b2 hc) fun e => ?_
     exact hap i n _ _ b1 q5 (fun e => he e.symm) c hc e
   ·rw [hin]
    exact hap.set fun c hc => by rw [hnilb] at hc; cases hc
   ·rw [hin] at hu
    obtain ⟨i, _, hi⟩ := hmem u hu c hc;exact hnb u (List.mem_of_getElem? hi) c hc
  ·rcases h with h | h
   ·exact absurd (by simpa using h) g3
   ·omega
  ·rw [hgetn] at hδ
   simp only [Option.some.injEq] at hδ;subst hδ;rw [hnew];refine ⟨rfl, _, _, ls ++ ks, own1, fun c hc => ?_, ?_, by simp [r3, hks], RdRow_append r4 hrd⟩
   ·rcases from1 c ((hone c).1 hc) with h3 | h3
    ·exact .inl (Nat.le_trans hR.keeps.size h3)
    ·exact hR.mine hb rfl (.inr ⟨_, hmemv, h3⟩)
   ·rw [← e2', ← List.map_append]
    exact get_new hR.len
 ·obtain ⟨ad', cap', e'⟩ := ownsRow_slice own1
  exact ⟨by simp, by rw [hnew]; rfl, ad', _, cap', by rw [hnew]; exact e'⟩
end
end Vs

namespace Vs
open Go Go.RowKit
section
variable {P : Program} {X : Nat → Prop} {M : Hand} {w0 w w' : World} {S : SS} {μ μ' : Mu} {ρ : List D} {a : Act}
theorem put_any {dst : Option Nat} {v v' : SV} {slots : List SV} (h : put S dst v = .ok slots) : ∃ s, put S dst v' = .ok s := by
 unfold put at h ⊢
 cases dst with
 | none => exact ⟨_, rfl⟩
 | some d =>
  simp only at h ⊢;split at h
  ·rename_i hd
   rw [if_pos hd];exact ⟨_, rfl⟩
  ·cases h
theorem frzB_ok {h : Nat} {v : SV} {bs : List SB} {r : ET × TypeId × Atom} (hf : frzB h v bs = some r) : v = .c (.s (.own h)) ∧ bs = [.row (.s1 r.1) r.2.1 r.2.2] := by
 unfold frzB at hf
 split at hf
 ·split at hf
  ·rename_i he
   subst he
   cases hf
   exact ⟨rfl, rfl⟩
  ·cases hf
 ·cases hf
theorem step_frz {o : Oper} {g : Guard} {slots slots' : List SV} {r : ET × TypeId × Atom} {σ : List D} {n : Nat} (hR : R X M w0 S μ ρ a w) (hgg : ∀ x want, g = some (x, want) → x.get ρ ≠ none) (hok : g.ok ρ = true)
  (hd : o.dst.isSome = true) (hp : put S o.dst (.c (.s (.own S.heap.length))) = .ok slots) (hp' : put S o.dst (wrapG g (frzV r)) = .ok slots') (hn : n = S.n + σ.length)
  (hs : StepOk P X M w0 S μ { n := n, slots := slots, heap := S.heap ++ [.row (.s1 r.1) r.2.1 r.2.2] } o [] a w (ρ ++ σ)) :
  StepOk P X M w0 S μ { n := n, slots := slots', heap := S.heap } o [] a w (ρ ++ σ) := by
 intro K Q hK
 refine hs K Q fun μ' a' w' h1 h2 => ?_
 obtain ⟨⟨u, rfl⟩, mv, hdr⟩ := h2
 have only : ∀ β, live S.heap β → ¬ (β ∈ ([] : List Nat) ∨ S.heap.length ≤ β) := by
  intro β hl h
  rcases h with h | h
  ·cases h
  ·have := live_lt hl; omega
 have mv' : Move S μ w [] S.heap μ' w' := ⟨by simp, Nat.le_refl _, fun β hβ hn => ⟨rfl, (mv.same β hβ hn).2⟩, mv.mu, mv.os, mv.tape, mv.output, mv.size, mv.blk, fun β hl h => absurd h (only β hl), fun β γ hl _ h => absurd h (only β hl)⟩
 have hA := R_move hR mv' hdr (fun _ β sb hb h => by
  rcases h with h | h
  ·cases h
  ·have := (List.getElem?_eq_some_iff.1 hb).1; omega)
 have hB := R_env hA σ
 have hlive : ∀ {γ : Nat}, live S.heap γ → live (S.heap ++ [SB.row (.s1 r.1) r.2.1 r.2.2]) γ := fun {γ} h => by have hlt := live_lt h;obtain ⟨sb, h3, h4⟩ := h;exact ⟨sb, by rw [List.getElem?_append_left hlt]; exact h3, h4⟩
 have hnew : live (S.heap ++ [SB.row (.s1 r.1) r.2.1 r.2.2]) S.heap.length := ⟨_, by rw [List.getElem?_append_right (Nat.le_refl _)]; simp; rfl, by simp⟩
 have hR3 := R_put (dst := o.dst) (v := wrapG g (frzV r)) (u := u) (slots := slots') hB (by exact hp') (by
  have hgg' : ∀ x want, g = some (x, want) → x.get (ρ ++ σ) ≠ none := fun x want e => by
   have := hgg x want e
   cases hx : x.get ρ with
   | none => exact absurd hx this
   | some d => rw [Atom.get_append hx]; simp
  refine wrapG_ok hgg' (by rw [guard_append hgg]; exact hok) ?_
  cases hdst : o.dst with
  | none => rw [hdst] at hd; cases hd
  | some d =>
   rw [hdst] at hp;obtain ⟨q1, q2⟩ := put_ok hp;have hdl : d < S.slots.length := by
    unfold put at hp;simp only at hp;split at hp
    ·assumption
    ·cases hp
   have hsl : slots[d]? = some (.c (.s (.own S.heap.length))) := by unfold put at hp;simp only [if_pos hdl, Except.ok.injEq] at hp;rw [← hp, List.getElem?_set_self hdl]
   have hu := h1.slots d _ hsl;rw [tmps_put, if_pos ⟨by rw [hdst], by rw [hR.size]; exact hdl⟩] at hu
   obtain ⟨_, rfl, _⟩ := hu;exact own_read h1 (F := Fz X S.heap μ' w') (fun b hb => ⟨hb.1, fun γ hγ => hb.2 γ (hlive hγ)⟩)
    (fun b hb => ⟨⟨h1.own_lt hnew hb, h1.exo _ hnew b hb⟩, fun γ hγ => h1.inj _ γ hnew (hlive hγ) (by have := live_lt hγ; omega) b hb⟩)
    (e := r.2.1) (by show (S.heap ++ [SB.row (.s1 r.1) r.2.1 r.2.2])[S.heap.length]? = _; rw [List.getElem?_append_right (Nat.le_refl _)]; simp))
 subst hn
 exact hK _ _ _ hR3 ⟨⟨u, rfl⟩, mv', hdr⟩
end
end Vs

namespace Vs
open Go Go.RowKit
section
variable {P : Program} {X : Nat → Prop} {M : Hand} {w0 w : World} {S : SS} {μ : Mu} {ρ : List D} {a : Act}
theorem isSome_false {g : Guard} (h : g.isSome = false) : g = none := by cases g with | none => rfl | some _ => cases h
theorem optSV {y : Option Operand} {so : Option SV} (hS : ∀ (i : Nat) s, S.slots[i]? = some s → SVR w (Fz X S.heap μ w) S.heap.length μ ρ s (a.tmps.getD i Go.undef))
  (hy : (match y with | none => .ok none | some y => (do let v ← getSV S y; Except.ok (some v) : Res (Option SV)) : Res (Option SV)) = .ok so) : OptR (SVR w (Fz X S.heap μ w) S.heap.length μ ρ) so (y.map a.eval) := by
 cases y with
 | none => simp only [Except.ok.injEq] at hy; subst hy; trivial
 | some y =>
  obtain ⟨v', g1, g2⟩ := bind_ok hy;simp only [Except.ok.injEq] at g2;subst g2;exact getSV_ok g1 hS
theorem hop_ok {o : Oper} {v : SV} {ps : List Push} {heap' : List SB} {tch : List Nat} {ρ' : List D} (h : hop P S o = .ok (v, ps, heap', tch)) (hR : R X M w0 S μ ρ a w) (hp : pushAll ps ρ = some ρ') : HopOk P X M w0 S μ o a w ρ' v heap' tch := by
 unfold hop at h
 split at h
 ·
  rename_i t x ho;obtain ⟨s, h2, h3⟩ := bind_ok h;split at h3
  ·rename_i ag cs hcs
   split at h3
   ·rename_i hpl
    split at h3
    ·obtain ⟨ys, g1, g2⟩ := bind_ok h3
     simp only [Except.ok.injEq, Prod.mk.injEq] at g2;obtain ⟨rfl, rfl, rfl, rfl⟩ := g2;obtain ⟨d, hd, rfl⟩ := pushAll_one hp;simp only [Prim.ev, Option.some.injEq] at hd;subst hd;obtain ⟨i1, _⟩ := boxAtoms_ok g1 (svCells_ok hcs hpl (getSV_ok h2 hR.slots));refine src_hop (T := t) hR ?_ i1 (get_new hR.len);simp [execOp, ho, Instr.box, newVar, newRow]
    simp only [Except.ok.injEq, Prod.mk.injEq] at h3;obtain ⟨rfl, rfl, rfl, rfl⟩ := h3;simp only [pushAll, Option.some.injEq] at hp;subst hp;refine box_hop (T := t) hR ?_ (svCells_ok hcs hpl (getSV_ok h2 hR.slots));simp [execOp, ho, Instr.box, newVar, newRow]
   ·cases h3
  ·cases h3
 ·
  rename_i t ho;obtain ⟨i, h2, h3⟩ := bind_ok h;obtain ⟨z, h4, h5⟩ := bind_ok h3;split at h5
  ·rename_i hsrc
   simp only [Except.ok.injEq, Prod.mk.injEq] at h5;obtain ⟨rfl, rfl, rfl, rfl⟩ := h5;simp only [pushAll, Option.some.injEq] at hp;subst hp;unfold isSrc at hsrc;simp only [Bool.and_eq_true, decide_eq_true_eq] at hsrc;have hzl : z.cells.toList = [.slice none 0 0, .int .i64 0, .int .u64 0] := by
    have := hsrc.2;split at this
    ·assumption
    ·cases this
   have hs := src_hop (P := P) (σ := []) (o := o) (x := .c (.agg [.lst [], .int 0, .int 0])) (T := t) (ts := srcCells) (arr := z.cells) hR ?_ ?_ rfl
   ·simpa using hs
   ·simp [execOp, ho, Instr.alloc, zeroValue, typeInfo, need_ok h2, need_ok h4, newVar, newRow]
   ·rw [hzl]
    exact ⟨⟨[], rfl, .inl ⟨⟨none, 0, rfl, fun _ => rfl⟩, rfl⟩⟩, ⟨0, rfl, rfl⟩, ⟨0, rfl, rfl⟩, trivial⟩
  obtain ⟨cs, h6, h7⟩ := bind_ok h5;simp only [Except.ok.injEq, Prod.mk.injEq] at h7;obtain ⟨rfl, rfl, rfl, rfl⟩ := h7;simp only [pushAll, Option.some.injEq] at hp;subst hp;refine box_hop (T := t) hR ?_ (litCells_ok (need_ok h6));simp [execOp, ho, Instr.alloc, zeroValue, typeInfo, need_ok h2, need_ok h4, newVar, newRow]
 ·
  rename_i t p x ho;obtain ⟨pa, h2, h3⟩ := bind_ok h;obtain ⟨s, h4, h5⟩ := bind_ok h3;split at h5
  ·rename_i β off
   obtain ⟨sz, h6, h7⟩ := bind_ok h5;split at h7
   ·rename_i ag vs hvs
    split at h7
    ·rename_i cs hcs
     split at h7
     ·rename_i hlen
      simp only [Except.ok.injEq, Prod.mk.injEq] at h7;obtain ⟨rfl, rfl, rfl, rfl⟩ := h7;simp only [pushAll, Option.some.injEq] at hp;subst hp;exact store_var_hop ho hR h2 h4 (need_ok h6) hvs hcs hlen
     ·cases h7
    ·rename_i ts y hcs
     exact store_bx_hop ho hR h2 h4 (need_ok h6) hvs hcs h7 hp
    ·cases h7
   ·cases h7
  ·exact store_elem_hop ho hR h2 h4 h5 hp
  ·cases h5
 ·
  rename_i t len parts ho;obtain ⟨l, h2, h3⟩ := bind_ok h;unfold hopBuildAny at h3;split at h3
  ·rename_i hf
   exact buildF_hop ho hR h2 hf h3 hp
  ·exact build_hop ho hR (g := none) rfl h2 h3 hp
 ·
  rename_i t l c ho;obtain ⟨sa, h2, h3⟩ := bind_ok h;obtain ⟨sb, h4, h5⟩ := bind_ok h3;exact make_hop ho hR h2 h4 h5 hp
 ·
  rename_i t ho;exact makeMap_hop ho hR h hp
 ·
  rename_i t m k v' ho;obtain ⟨sm, h2, h3⟩ := bind_ok h;obtain ⟨sk, h4, h5⟩ := bind_ok h3;obtain ⟨sv, h6, h7⟩ := bind_ok h5;exact mapUpdate_hop ho hR (getSV_ok h2 hR.slots) (getSV_ok h4 hR.slots) (getSV_ok h6 hR.slots) h7 hp
 ·
  rename_i t m k ho;obtain ⟨sm, h2, h3⟩ := bind_ok h;obtain ⟨sk, h4, h5⟩ := bind_ok h3;exact mapEntry_hop ho hR (getSV_ok h2 hR.slots) (getSV_ok h4 hR.slots) h5 hp
 ·rename_i t m k v' ho
  obtain ⟨sm, h2, h3⟩ := bind_ok h;obtain ⟨sk, h4, h5⟩ := bind_ok h3;obtain ⟨sv, h6, h7⟩ := bind_ok h5;exact entryStore_hop ho hR (getSV_ok h2 hR.slots) (getSV_ok h4 hR.slots) (getSV_ok h6 hR.slots) h7 hp
 ·
  rename_i args ats ho;obtain ⟨ss, h2, h3⟩ := bind_ok h;split at h3
  ·rename_i sa sb t t' hat
   split at h3
   ·rename_i ht
    subst ht;obtain ⟨hl, hx⟩ := getSVs_ok (g := none) rfl hR.slots h2;obtain ⟨s, x, hargs⟩ : ∃ s x, args.toList = [s, x] := by
     match e : args.toList, hl with
     | [s, x], _ => exact ⟨s, x, rfl⟩
    rw [hargs] at hx;have hxa := hx 0 _ _ rfl rfl;have hxb := hx 1 _ _ rfl rfl;unfold hopApp at h3;split at h3
    ·exact appendM_hop ho hargs hat hR hxa hxb h3 hp
    ·split at h3
     ·rename_i β et e x' hf
      unfold isFrz at hf;split at hf
      ·rename_i β'
       split at hf
       ·rename_i hβ
        simp only [Option.some.injEq, Prod.mk.injEq] at hf;obtain ⟨rfl, rfl, rfl, rfl⟩ := hf;exact appendF_hop ho hargs hat hR hxa hxb hβ h3 hp
       ·cases hf
      ·cases hf
     ·exact append_hop ho hargs hat hR hxa hxb h3 hp
   ·cases h3
  ·cases h3
 ·
  rename_i t x lo hi ho;obtain ⟨s, h2, h3⟩ := bind_ok h;split at h3
  ·rename_i β
   obtain ⟨slo, h4, h5⟩ := bind_ok h3;obtain ⟨shi, h6, h7⟩ := bind_ok h5;split at h7
   ·rename_i et e l hs
    obtain ⟨⟨v', ps'⟩, h8, h9⟩ := bind_ok h7;simp only [Except.ok.injEq, Prod.mk.injEq] at h9;obtain ⟨rfl, rfl, rfl, rfl⟩ := h9;obtain ⟨f1, f2⟩ := hR.freed hs rfl;obtain ⟨d, hd, hrd⟩ := own_read hR f1 f2 hs;obtain ⟨ls, e1, _⟩ := rowRd_sl hrd (fun b e => by cases e)
    subst e1;exact freeze_hop ho hR h2 (optSV hR.slots h4) (optSV hR.slots h6) hs rfl hd hrd h8 hp
   ·rename_i et e' e ver l hs
    obtain ⟨⟨v', ps'⟩, h8, h9⟩ := bind_ok h7;simp only [Except.ok.injEq, Prod.mk.injEq] at h9;obtain ⟨rfl, rfl, rfl, rfl⟩ := h9;obtain ⟨f1, f2⟩ := hR.freed hs rfl;obtain ⟨_, n, ls, b1, _, b2, b3, b4, _, _⟩ := hR.blocks β _ hs;exact freeze_hop ho hR h2 (optSV hR.slots h4) (optSV hR.slots h6) hs rfl b2 (ownRows_read b1 b3 b4 f2) h8 hp
   ·cases h7
  ·rename_i β off
   split at h3
   ·rename_i n e cs ht hs
    split at h3
    ·rename_i bt hbt
     split at h3
     ·rename_i hc
      obtain ⟨rfl, hz, _, _⟩ := hc;obtain ⟨xs, h4, h5⟩ := bind_ok h3;simp only [Except.ok.injEq, Prod.mk.injEq] at h5;obtain ⟨rfl, rfl, rfl, rfl⟩ := h5;exact arr_hop ho hR h2 ht hz hs h4 hp
     ·cases h3
    ·cases h3
   ·cases h3
  ·cases h3
 ·cases h
theorem callee_ok {g : Guard} {fo : Operand} {f : FuncId} {caps : List SV} {o : Oper} {args : Array Operand} {ats : Array TypeId} (h : calleeOf S g fo = .ok (f, caps)) (hg : g.ok ρ = true) (hR : R X M w0 S μ ρ a w) (ho : o.op = .call { callee := .value fo, args, argTypes := ats }) :
  ∃ cs : List Value, cs.length = caps.length ∧ (∀ (j : Nat) s u, caps[j]? = some s → cs[j]? = some u → SVR w (Fz X S.heap μ w) S.heap.length μ ρ s u) ∧ execOp a.eval o = callFunc f (args.toList.map a.eval ++ cs).toArray := by
 have e2 : ∀ cs : Array Value, (#[] ++ args.map a.eval ++ cs : Array Value) = (args.toList.map a.eval ++ cs.toList).toArray := fun cs => by apply Array.ext'; simp
 unfold calleeOf at h
 split at h
 ·simp only [Except.ok.injEq, Prod.mk.injEq] at h
  obtain ⟨rfl, rfl⟩ := h;refine ⟨[], rfl, by simp, ?_⟩
  have := e2 #[];rw [show ([] : List Value) = (#[] : Array Value).toList from rfl, ← this]
  obtain ⟨dst, op, ty, pos, after, guard⟩ := o;simp only at ho;subst ho;rfl
 ·rename_i t
  obtain ⟨s, h1, h2⟩ := bind_ok h;split at h2
  ·rename_i f' cs0 he
   simp only [Except.ok.injEq, Prod.mk.injEq] at h2;obtain ⟨rfl, rfl⟩ := h2;have hst := strip_ok hg (getSV_ok h1 hR.slots);rw [he] at hst;obtain ⟨cs, hv, hl, hc⟩ := hst;refine ⟨cs.toList, by simp [hl], fun j s u hj hu => ?_, ?_⟩
   ·rw [List.getElem?_map] at hj
    cases hcj : cs0[j]? with
    | none => rw [hcj] at hj; cases hj
    | some c =>
     rw [hcj] at hj;simp only [Option.map_some, Option.some.injEq] at hj;subst hj;exact hc j c u hcj (by simpa using hu)
   ·rw [← e2]
    obtain ⟨dst, op, ty, pos, after, guard⟩ := o;simp only at ho;subst ho;have hv' : a.eval (Operand.tmp t) = _ := hv;show (do let d ← Deferred.ofValue (a.eval (.tmp t)) (args.map a.eval); invoke d.target d.args) = _
    rw [hv'];rfl
  ·cases h2
 ·cases h
theorem sop_ok {E : Env} {G : Nat → List D → Option (List D)} (hE : EnvOk E G) {ops : Array Oper} {o : Oper} {S' : SS} {g : Guard} {eff : Eff} {tch : List Nat} (h : sop E ops.toList S o = .ok (S', g, eff, tch)) (hR : R X M w0 S μ ρ a w) :
  Region.wanted o (yielded ops a.tmps) = g.ok ρ ∧ (∀ x want, g = some (x, want) → x.get ρ ≠ none) ∧
  (g.ok ρ = false → S'.heap = S.heap ∧ tch = [] ∧ R X M w0 S' μ (ρ ++ List.replicate (effLen eff) .undef) (a.put o.dst Go.undef) w) ∧
  (g.ok ρ = true → ∀ ρ', effRun G ρ eff = some ρ' → StepOk E.P X M w0 S μ S' o tch a w ρ') := by
 unfold sop at h
 obtain ⟨g', hg0, h1⟩ := bind_ok h
 obtain ⟨hw, hgg⟩ := guardOf_ok hg0 hR
 clear h
 split at h1
 ·
  rename_i r hl
  dsimp only at h1
  cases hop : ownPlace S.n g' r with
  | mk v ps =>
  rw [hop] at h1
  dsimp only at h1
  split at h1
  ·cases h1
  ·rename_i hfr
   obtain ⟨slots, hp, h2⟩ := bind_ok h1;simp only [Except.ok.injEq, Prod.mk.injEq] at h2;obtain ⟨rfl, rfl, rfl, rfl⟩ := h2;refine ⟨hw, hgg, fun hno => ?_, fun hok ρ' hp' => ?_⟩
   ·refine ⟨rfl, rfl, R_skip hR hgg hno hp ?_⟩
    cases hgs : g'.isSome with
    | false => rw [isSome_false hgs] at hno; cases hno
    | true =>
     cases hf : freshSV S.n ps.length v with
     | true => rfl
     | false => exact absurd ⟨hgs, hf⟩ hfr
   ·obtain ⟨u, w', hr, q, hv⟩ := lop_place hE.ext hl hop hR hok hp'
    obtain ⟨σ, rfl, hσ⟩ := pushAll_env hp';have h3 := R_env hR σ;rw [hσ] at h3;have hgg' : ∀ x want, g' = some (x, want) → x.get (ρ ++ σ) ≠ none := fun x want e => by
     have := hgg x want e
     cases hx : x.get ρ with
     | none => exact absurd hx this
     | some d => rw [Atom.get_append hx]; simp
    have h4 := R_put (dst := o.dst) (v := wrapG g' v) (slots := slots) h3 (by exact hp) (wrapG_ok hgg' (by rw [guard_append hgg]; exact hok) hv)
    exact step_value hr (R_quiet h4 q) (Move.none q.heap q.os q.tape q.output)
 ·rename_i why hl
  split at h1
  ·
   rename_i fo args ats ho;obtain ⟨⟨f, caps⟩, h0, h1⟩ := bind_ok h1
   dsimp only at h1
   split at h1
   ·rename_i key sg hsg
    obtain ⟨ss, h2, h3⟩ := bind_ok h1;obtain ⟨ar, h4, h5⟩ := bind_ok h3
    cases haf : afterMA ar.mas (S.n + ar.pre.length + resCount sg.results) (S.n + ar.pre.length + (resCount sg.results + sg.keeps.length)) S.heap with
    | mk hE' post =>
    rw [haf] at h5
    dsimp only at h5
    cases hra : resAll sg.results (S.n + ar.pre.length) S.heap.length with
    | mk rs bs =>
    rw [hra] at h5
    dsimp only at h5
    obtain ⟨v, h6, h7⟩ := bind_ok h5;split at h7
    ·cases h7
    ·rename_i hown
     simp only [not_or, Decidable.not_not, Bool.not_eq_true, Bool.not_eq_false, List.any_eq_false, List.contains_iff_mem] at hown;split at h7
     ·
      split at h7
      ·rename_i r hr
       split at h7
       ·rename_i hc
        obtain ⟨hc1, hc2, hc3, hc4⟩ := hc;obtain ⟨slots, hp, h8⟩ := bind_ok h7;simp only [Except.ok.injEq, Prod.mk.injEq] at h8;obtain ⟨rfl, rfl, rfl, rfl⟩ := h8;have hm : ar.mas = [] := by simpa using hc1
        have hpre : ar.pre = [] := by simpa using hc2
        refine ⟨hw, hgg, fun hno => ⟨rfl, rfl, ?_⟩, fun hok ρ' hp' => ?_⟩
        ·have := R_skip hR hgg hno hp hc3
         simpa [effLen] using this
        ·simp only [effRun, pushAll, Option.bind_some] at hp'
         split at hp'
         ·rename_i ds hds
          split at hp'
          ·rename_i hcnt
           simp only [Option.some.injEq] at hp';subst hp';obtain ⟨cs, c1, c2, c3⟩ := callee_ok h0 hok hR ho;obtain ⟨s1, s2⟩ := getSVs_ok hok hR.slots h2;obtain ⟨rfl, rfl⟩ := frzB_ok hr;obtain ⟨slots1, hp1⟩ := put_any (v' := .c (.s (.own S.heap.length))) hp;rw [hm] at haf;simp only [afterMA, Prod.mk.injEq] at haf;obtain ⟨rfl, rfl⟩ := haf;have hc := call_ok (g := none) (vs := args.toList.map a.eval ++ cs) (ss := ss ++ caps) (σ1 := []) (hE := S.heap) (post := []) (ρ2 := ρ ++ ds) (hE.sig _ _ _ hsg) (by rw [c3]) hR rfl (by simp) (by simp [s1, c1])
            (fun j s u hj hu => by
             rcases Nat.lt_or_ge j ss.length with hlt | hge
             ·rw [List.getElem?_append_left hlt] at hj
              rw [List.getElem?_append_left (by simpa [s1] using hlt)] at hu
              exact s2 j s u hj hu
             ·rw [List.getElem?_append_right hge] at hj
              rw [List.getElem?_append_right (by simpa [s1] using hge)] at hu
              refine c2 _ s u hj ?_
              simpa [s1] using hu)
            h4 (by simp [hm, afterMA]) hown.1 hown.2.1 hown.2.2 (v := .c (.s (.own S.heap.length))) (by rw [hra]; exact need_ok h6) hp1 (by rw [hpre]; simp [pushAll]) (by simpa using hds) hcnt (by simp [pushAll])
           rw [hra, hm] at hc;simp only [List.map_nil] at hc;refine step_frz hR hgg hok hc4 hp1 hp (by rw [hcnt]) ?_
           have hlen : (ρ ++ ds).length = S.n + (resCount sg.results + sg.keeps.length) := by rw [List.length_append, hR.len, hcnt]
           rw [hlen] at hc;exact hc
          ·cases hp'
         ·cases hp'
       ·cases h7
      ·cases h7
     split at h7
     ·cases h7
     ·rename_i hfr
      obtain ⟨slots, hp, h8⟩ := bind_ok h7;simp only [Except.ok.injEq, Prod.mk.injEq] at h8;obtain ⟨rfl, rfl, rfl, rfl⟩ := h8;refine ⟨hw, hgg, fun hno => ?_, fun hok ρ' hp' => ?_⟩
      ·cases hgs : g'.isSome with
       | false => rw [isSome_false hgs] at hno; cases hno
       | true =>
        have hb : bs = [] := by
         cases hbe : bs.isEmpty with
         | true => simpa using hbe
         | false => exact absurd ⟨hgs, .inl hbe⟩ hfr
        have hm : ar.mas = [] := by
         cases hbe : ar.mas.isEmpty with
         | true => simpa using hbe
         | false => exact absurd ⟨hgs, .inr (.inl hbe)⟩ hfr
        have hpre : ar.pre = [] := by
         cases hbe : ar.pre.isEmpty with
         | true => simpa using hbe
         | false => exact absurd ⟨hgs, .inr (.inr (.inl hbe))⟩ hfr
        have hf : freshSV (S.n + ar.pre.length) (resCount sg.results + sg.keeps.length) v = true := by
         cases hf : freshSV (S.n + ar.pre.length) (resCount sg.results + sg.keeps.length) v with
         | true => rfl
         | false => exact absurd ⟨hgs, .inr (.inr (.inr hf))⟩ hfr
        rw [hm] at haf;simp only [afterMA, Prod.mk.injEq] at haf;obtain ⟨rfl, rfl⟩ := haf;rw [hpre] at hf;subst hb;have := R_skip hR hgg hno hp hf;exact ⟨by simp, by simp [hm], by simpa [effLen, hpre] using this⟩
      ·simp only [effRun] at hp'
       cases hpre : pushAll ar.pre ρ with
       | none => rw [hpre] at hp'; cases hp'
       | some ρ1 =>
       rw [hpre, Option.bind_some] at hp';obtain ⟨σ1, rfl, hσ1⟩ := pushAll_env hpre;split at hp'
       ·rename_i ds hds
        split at hp'
        ·rename_i hcnt
         obtain ⟨cs, c1, c2, c3⟩ := callee_ok h0 hok hR ho;obtain ⟨s1, s2⟩ := getSVs_ok hok hR.slots h2;have hc := call_ok (vs := args.toList.map a.eval ++ cs) (ss := ss ++ caps) (hE.sig _ _ _ hsg) (by rw [c3]) hR hok hgg (by simp [s1, c1])
          (fun j s u hj hu => by
           rcases Nat.lt_or_ge j ss.length with hlt | hge
           ·rw [List.getElem?_append_left hlt] at hj
            rw [List.getElem?_append_left (by simpa [s1] using hlt)] at hu
            exact s2 j s u hj hu
           ·rw [List.getElem?_append_right hge] at hj
            rw [List.getElem?_append_right (by simpa [s1] using hge)] at hu
            refine c2 _ s u hj ?_
            simpa [s1] using hu)
          h4 haf hown.1 hown.2.1 hown.2.2 (v := v) (by rw [hra]; exact need_ok h6) hp hpre hds hcnt hp'
         obtain ⟨σ2, e2, hσ2⟩ := pushAll_env hp';rw [hra] at hc;have hlen : ρ'.length = S.n + ar.pre.length + (resCount sg.results + sg.keeps.length) + post.length := by rw [e2]; simp only [List.length_append, hσ1, hσ2, hcnt, hR.len]
         rw [hlen] at hc;exact hc
        ·cases hp'
       ·cases hp'
   ·cases h1
  ·
   split at h1
   ·
    obtain ⟨⟨v, ps⟩, h2, h3⟩ := bind_ok h1
    dsimp only at h3
    split at h3
    ·cases h3
    ·rename_i hfr
     simp only [not_or, Bool.not_eq_false] at hfr;obtain ⟨slots, hp, h4⟩ := bind_ok h3;simp only [Except.ok.injEq, Prod.mk.injEq] at h4;obtain ⟨rfl, rfl, rfl, rfl⟩ := h4;refine ⟨hw, hgg, fun hno => ⟨rfl, rfl, ?_⟩, fun hok ρ' hp' => ?_⟩
     ·have := R_skip hR hgg hno hp hfr.1
      simpa [effLen] using this
     ·simp only [effRun] at hp'
      unfold hopGuarded at h2;split at h2
      ·rename_i t len parts ho
       obtain ⟨l, g1, g2⟩ := bind_ok h2;obtain ⟨⟨v1, ps1, heap1, tc1⟩, g3, g4⟩ := bind_ok g2
       dsimp only at g4
       split at g4
       ·rename_i et e hmk
        split at g4
        ·rename_i r hr
         simp only [Except.ok.injEq, Prod.mk.injEq] at g4;obtain ⟨rfl, rfl⟩ := g4;obtain ⟨rfl, hbs⟩ := frzB_ok hr;have hheap : heap1 = S.heap ++ [.row (.s1 r.1) r.2.1 r.2.2] := by
          unfold hopBuildSlice at g3;rw [hmk] at g3;simp only [need, bind, Except.bind] at g3;split at g3
          ·split at g3
           ·cases g3
           ·simp only [Except.ok.injEq, Prod.mk.injEq] at g3
            obtain ⟨_, _, rfl, _⟩ := g3;rw [List.drop_left] at hbs;rw [hbs]
          ·cases g3
         subst hheap;have hk := build_hop ho hR hok g1 g3 hp';obtain ⟨σ, rfl, hσ⟩ := pushAll_env hp';obtain ⟨slots1, hp1⟩ := put_any (v' := .c (.s (.own S.heap.length))) hp;have := hop_step hk hR hp1;exact step_frz hR hgg hok hfr.2 hp1 hp (by rw [hσ]) (by rw [hσ] at this; exact this)
        ·cases g4
       ·cases g4
      ·cases h2
   ·rename_i hgs
    have hg := isSome_false (by simpa using hgs)
    subst hg;obtain ⟨⟨v, ps, heap', tc⟩, h2, h3⟩ := bind_ok h1
    dsimp only at h3
    obtain ⟨slots, hp, h4⟩ := bind_ok h3;simp only [Except.ok.injEq, Prod.mk.injEq] at h4;obtain ⟨rfl, rfl, rfl, rfl⟩ := h4;refine ⟨hw, hgg, fun hno => (by cases hno), fun _ ρ' hp' => ?_⟩
    simp only [effRun] at hp';have hk := hop_ok h2 hR hp';obtain ⟨σ, rfl, hσ⟩ := pushAll_env hp';have := hop_step hk hR hp;rw [hσ] at this;exact this
end
end Vs

namespace Vs
open Go Go.RowKit
def D.eqb : D → D → Bool
 | .int a, .int b => a == b
 | .bool a, .bool b => a == b
 | .flt a, .flt b => a == b
 | .lst [], .lst [] => true
 | _, _ => false
theorem D.eqb_ok {a b : D} (h : D.eqb a b = true) : a = b := by
 unfold D.eqb at h
 split at h
 ·simp only [beq_iff_eq] at h; rw [h]
 ·simp only [beq_iff_eq] at h; rw [h]
 ·simp only [beq_iff_eq] at h; rw [h]
 ·rfl
 ·cases h
def Atom.eqb : Atom → Atom → Bool
 | .v i, .v j => i == j
 | .c a, .c b => D.eqb a b
 | _, _ => false
theorem Atom.eqb_ok {a b : Atom} (h : Atom.eqb a b = true) : a = b := by
 unfold Atom.eqb at h
 split at h
 ·simp only [beq_iff_eq] at h; rw [h]
 ·rw [D.eqb_ok h]
 ·cases h
structure Fill where
 n : Nat
 hb : Nat
 hj : Nat
 θ : List Atom
 bs : List Nat
 nils : List MK
 ver : List (Option Nat)
def Fill.blk (f : Fill) (β : Nat) : Nat := if β < f.hb then β else f.bs.getD (β - f.hb) 0
def Fill.blkOk (f : Fill) (β : Nat) : Bool := decide (β < f.hj) && (decide (β < f.hb) || decide (β - f.hb < f.bs.length))
def leAtom (f : Fill) : Atom → Atom → Bool
 | .v j, y => if j < f.n then Atom.eqb (.v j) y else (match f.θ[j - f.n]? with | some z => Atom.eqb z y | none => false)
 | .c d, y => Atom.eqb (.c d) y
def leFC (f : Fill) : FC → FC → Bool
 | .d t x, .d u y => decide (t = u) && leAtom f x y
 | .o β, .o γ => f.blkOk β && f.blk β == γ
 | .p β, .p γ => f.blkOk β && f.blk β == γ
 | _, _ => false
def leList {α : Type} (le : α → α → Bool) : List α → List α → Bool
 | [], [] => true
 | a :: r, b :: q => le a b && leList le r q
 | _, _ => false
def leCV0 (f : Fill) (hl : Nat) : CV0 → CV0 → Bool
 | .undef, _ => true
 | .nils, .nils => true
 | .dat t x, .dat u y => decide (t = u) && leAtom f x y
 | .dat t x, .nils => (match t with | .b _ => false | _ => leAtom f x (.c (.lst [])))
 | .own β, .own γ => f.blkOk β && f.blk β == γ
 | .own β, .nils => f.blkOk β && decide (hl ≤ f.blk β) && decide (f.blk β < hl + f.nils.length)
 | .vptr β o, .vptr γ p => f.blkOk β && f.blk β == γ && o == p
 | .eptr β i s o, .eptr γ j s' p => f.blkOk β && f.blk β == γ && leAtom f i j && s == s' && o == p
 | .fcel cs o, .fcel ds p => leList (leFC f) cs ds && o == p
 | .omap β, .omap γ => f.blkOk β && f.blk β == γ
 | _, _ => false
def leCV (f : Fill) (hl : Nat) : CV → CV → Bool
 | .s .undef, _ => true
 | .s c, .s d => leCV0 f hl c d
 | .fn g cs, .fn g' ds => g == g' && leList (leCV0 f hl) cs ds
 | _, _ => false
def leP (f : Fill) (hl : Nat) (a b : Bool × List CV) : Bool := a.1 == b.1 && leList (leCV f hl) a.2 b.2
def leSV (f : Fill) (hl : Nat) : SV → SV → Bool
 | .c (.s .undef), _ => true
 | .c x, .c y => leCV f hl x y
 | .agg xs, .agg ys => leList (leCV f hl) xs ys
 | .tup xs, .tup ys => leList (leP f hl) xs ys
 | _, _ => false
def leSB (f : Fill) (hl : Nat) : SB → SB → Bool
 | .dead, _ => true
 | .var xs, .var ys => leList (leCV f hl) xs ys
 | .row t e x, .row t' e' y => decide (t = t') && e == e' && leAtom f x y
 | .rows et f' e v x, .rows et' g' e' _ y => decide (et = et') && f' == g' && e == e' && v == 0 && leAtom f x y
 | .row (.s2 et) e x, .rows et' _ e' _ y => decide (et = et') && e == e' && leAtom f x y
 | .map m v x none, .map m' _ y none => decide (m = m') && v == 0 && leAtom f x y
 | .bx ts x, .bx ts' y => decide (ts = ts') && leAtom f x y
 | _, _ => false
def liveB (h : List SB) (β : Nat) : Bool := match h[β]? with | some .dead => false | some _ => true | none => false
def verOf : SB → Option Nat | .rows _ _ _ v _ => some v | .map _ v _ _ => some v | _ => none
def MK.nilMV : MK → MV
 | .row _ _ => ⟨.slice none 0 0, []⟩
 | .rows _ _ _ => ⟨.slice none 0 0, [[]]⟩
 | .map _ => ⟨.slice none 0 0, [[]]⟩
 | .box _ => ⟨.slice none 0 0, []⟩
def MK.slOk : MK → Bool
 | .row (.b _) _ => false
 | .map _ => false
 | .box _ => false
 | _ => true
def MV.now (m : MV) : MV := ⟨m.v, if m.hist.isEmpty then [] else [m.inner]⟩
theorem MV.now_inner {m : MV} : m.now.inner = m.inner := by
 unfold MV.now MV.inner
 cases h : m.hist with
 | nil => rfl
 | cons _ _ => rfl
theorem MV.now_own {m : MV} {b : Nat} : m.now.own b ↔ m.own b := by unfold MV.own; rw [MV.now_inner]; rfl
theorem MV.now_nil {m : MV} (h : m.hist = []) : m.now = m := by
 obtain ⟨v, hist⟩ := m
 simp only at h
 subst h
 rfl
theorem MV.flat_own {v : Value} {b : Nat} (h : (MV.mk v []).own b) : blkOf v = some b := (MV.own_flat (m := ⟨v, []⟩) rfl).1 h
def MV.nowAs (sb : Option SB) (m : MV) : MV := match sb with | some (.row _ _ _) => ⟨m.v, []⟩ | _ => m.now
theorem MV.nowAs_v {sb : Option SB} {m : MV} : (m.nowAs sb).v = m.v := by unfold MV.nowAs; split <;> rfl
theorem MV.nowAs_own {sb : Option SB} {m : MV} {b : Nat} (h : (m.nowAs sb).own b) : m.own b := by
 unfold MV.nowAs at h
 split at h
 ·exact .inl (MV.flat_own h)
 ·exact MV.now_own.1 h
def atomIn (n : Nat) : Atom → Bool | .v i => i < n | .c _ => true
def leSS (f : Fill) (Sj S : SS) : Bool :=
 let h := S.heap ++ f.nils.map fun k => k.sb 0 (.c (.lst []))
 Sj.n == f.n + f.θ.length && f.n ≤ S.n && f.θ.all (atomIn S.n) && leList (leSV f S.heap.length) Sj.slots S.slots &&
 f.nils.all MK.slOk && decide (f.ver = h.map verOf) &&
 decide (f.hb ≤ S.heap.length) && decide (f.hb ≤ Sj.heap.length) &&
 (List.range Sj.heap.length).all (fun β => match Sj.heap[β]? with
  | some sb => (match sb with | .dead => true | _ => f.blkOk β && (match h[f.blk β]? with | some sb' => leSB f S.heap.length sb sb' | none => false))
  | none => true) &&
 f.hj == Sj.heap.length &&
 (let im := ((List.range Sj.heap.length).filter (liveB Sj.heap)).map f.blk; decide (im.Nodup))
section
variable {X : Nat → Prop} {M : Hand} {w0 w : World} {S : SS} {μ : Mu} {ρ : List D} {a : Act}
theorem R_nils {μ1 : Mu} (h : R X M w0 S μ ρ a w) (nils : List MK) (hn : ∀ k ∈ nils, k.slOk = true) (hμ : ∀ β, β < S.heap.length → μ1 β = μ β) (hv : ∀ j k, nils[j]? = some k → μ1 (S.heap.length + j) = k.nilMV) :
  R X M w0 { S with heap := S.heap ++ nils.map fun k => k.sb 0 (.c (.lst [])) } μ1 ρ a w := by
 have hnew : ∀ β, live (S.heap ++ nils.map fun k => k.sb 0 (.c (.lst []))) β → S.heap.length ≤ β → ∃ k ∈ nils, μ1 β = k.nilMV := by
  intro β hl hge;have hlt := live_lt hl;simp only [List.length_append, List.length_map] at hlt;obtain ⟨k, hk⟩ : ∃ k, nils[β - S.heap.length]? = some k := ⟨_, List.getElem?_eq_getElem (by omega)⟩
  have := hv _ k hk;rw [show S.heap.length + (β - S.heap.length) = β from by omega] at this
  exact ⟨k, List.mem_of_getElem? hk, this⟩
 have hno : ∀ (k : MK) (b : Nat), ¬ k.nilMV.own b := by
  intro k b hb
  cases k <;> rcases hb with hb | ⟨u, hu, hb⟩ <;> simp [MK.nilMV, blkOf, MV.inner] at *
 have m : Move S μ w [] (S.heap ++ nils.map fun k => k.sb 0 (.c (.lst []))) μ1 w := by
  refine ⟨by simp, by simp, fun β hβ _ => ⟨List.getElem?_append_left hβ, hμ β hβ⟩, fun β hβ => ⟨by rw [hμ β hβ], [], by simp [hμ β hβ]⟩, rfl, rfl, rfl, Nat.le_refl _, fun _ _ _ => rfl, fun β hl h b hb => ?_, fun β γ hl _ h _ _ b hb => ?_⟩
  ·rcases h with h | h
   ·simp at h
   ·obtain ⟨k, _, e⟩ := hnew β hl h
    rw [e] at hb; exact absurd hb (hno k b)
  ·rcases h with h | h
   ·simp at h
   ·obtain ⟨k, _, e⟩ := hnew β hl h
    rw [e] at hb; exact absurd hb (hno k b)
 refine R_move h m (Nat.le_refl _) fun _ β sb hb hβ => ?_
 have hge : S.heap.length ≤ β := by
  rcases hβ with h | h
  ·simp at h
  ·exact h
 rw [List.getElem?_append_right hge, List.getElem?_map] at hb
 cases hk : nils[β - S.heap.length]? with
 | none => rw [hk] at hb; cases hb
 | some k =>
  rw [hk] at hb;simp only [Option.map_some, Option.some.injEq] at hb;subst hb;have := hv _ k hk;rw [show S.heap.length + (β - S.heap.length) = β from by omega] at this
  rw [this];have hs := hn k (List.mem_of_getElem? hk)
  cases k with
  | row t e =>
   refine ⟨rfl, 0, [], [], ⟨by simp, .inl ⟨rfl, rfl⟩⟩, fun b hb => absurd hb (hno _ b), rfl, rfl, ?_⟩
   cases t with
   | b t => cases hs
   | s1 e => rfl
   | s2 e => rfl
  | rows et e' e =>
   refine ⟨rfl, 0, [], ⟨by simp [MK.nilMV, MV.inner], .inl ⟨rfl, rfl⟩⟩, fun b hb => absurd hb (hno _ b), rfl, rfl, ⟨rfl, fun i u l hi => ?_⟩, fun i j u u' hi => ?_, fun u hu => ?_⟩
   ·simp [MK.nilMV, MV.inner] at hi
   ·simp [MK.nilMV, MV.inner] at hi
   ·simp [MK.nilMV, MV.inner] at hu
  | map m => cases hs
  | box ts => cases hs
theorem leList_get {α : Type} {le : α → α → Bool} : ∀ {xs ys : List α}, leList le xs ys = true → xs.length = ys.length ∧ ∀ (i : Nat) x, xs[i]? = some x → ∃ y, ys[i]? = some y ∧ le x y = true
 | [], [], _ => ⟨rfl, by simp⟩
 | a :: r, b :: q, h => by
  simp only [leList, Bool.and_eq_true] at h;obtain ⟨i1, i2⟩ := leList_get h.2;refine ⟨by simp [i1], fun i x hi => ?_⟩
  cases i with
  | zero => simp only [List.getElem?_cons_zero, Option.some.injEq] at hi; subst hi; exact ⟨b, rfl, h.1⟩
  | succ i => simp only [List.getElem?_cons_succ] at hi ⊢; exact i2 i x hi
 | [], _ :: _, h => by simp [leList] at h
 | _ :: _, [], h => by simp [leList] at h
def Fill.env (f : Fill) (ρ : List D) : List D := ρ.take f.n ++ evs ρ f.θ
variable {f : Fill} {F F' : Nat → Prop} {hl hl' : Nat} {μ' : Mu}
theorem leAtom_ok {x y : Atom} {d : D} (hn : f.n ≤ ρ.length) (h : leAtom f x y = true) (hy : y.get ρ = some d) : x.get (f.env ρ) = some d := by
 cases x with
 | c d' =>
  simp only [leAtom] at h;rw [← Atom.eqb_ok h] at hy;exact hy
 | v j =>
  simp only [leAtom] at h;split at h
  ·rename_i hj
   rw [← Atom.eqb_ok h] at hy;simp only [Atom.get, Fill.env] at hy ⊢;rw [List.getElem?_append_left (by simp; omega), List.getElem?_take, if_pos hj]
   exact hy
  ·rename_i hj
   split at h
   ·rename_i z hz
    rw [← Atom.eqb_ok h] at hy;simp only [Atom.get, Fill.env];have hl : (ρ.take f.n).length = f.n := by simp; omega
    rw [List.getElem?_append_right (by omega), hl]
    simp only [evs, List.getElem?_map, hz, Option.map_some, Atom.ev_of_get hy]
   ·cases h
structure FillOk (f : Fill) (hl0 hl' : Nat) (μ μ' : Mu) (ρ : List D) : Prop where
 n : f.n ≤ ρ.length
 θ : ∀ z ∈ f.θ, atomIn ρ.length z = true
 mu : ∀ β, β < hl' → (μ' β).v = (μ (f.blk β)).v
 nil : ∀ γ, hl0 ≤ γ → γ < hl0 + f.nils.length → (μ γ).v = .slice none 0 0
 ver : ∀ γ v, f.ver[γ]? = some (some v) → (μ γ).hist.length = v + 1
 ok : ∀ β, f.blkOk β = true → β < hl'
theorem FillOk.v {hl0 : Nat} (hf : FillOk f hl0 hl' μ μ' ρ) {β : Nat} (h : β < hl') : (μ' β).v = (μ (f.blk β)).v := hf.mu β h
theorem leFC_ok {hl0 : Nat} {x y : FC} {v : Value} (hf : FillOk f hl0 hl' μ μ' ρ) (hst : Stays F F' w w) (h : leFC f x y = true) (hv : FCR w F hl μ ρ y v) : FCR w F' hl' μ' (f.env ρ) x v := by
 cases x with
 | d t x =>
  cases y <;> simp only [leFC] at h <;> try cases h
  simp only [Bool.and_eq_true, decide_eq_true_eq] at h;obtain ⟨rfl, h⟩ := h;obtain ⟨d, hd, hr⟩ := hv;exact ⟨d, leAtom_ok hf.n h hd, hr.mono hst⟩
 | p β =>
  cases y <;> simp only [leFC] at h <;> try cases h
  simp only [Bool.and_eq_true, beq_iff_eq] at h;obtain ⟨h1, rfl⟩ := h;have hb := hf.ok β h1;obtain ⟨_, b, g1, g2⟩ := hv;exact ⟨hb, b, by rw [hf.v hb]; exact g1, g2⟩
 | o β =>
  cases y <;> simp only [leFC] at h <;> try cases h
  simp only [Bool.and_eq_true, beq_iff_eq] at h;obtain ⟨h1, rfl⟩ := h;have hb := hf.ok β h1;obtain ⟨_, rfl, hs⟩ := hv;exact ⟨hb, (hf.v hb).symm, by rw [hf.v hb]; exact hs⟩
theorem leCV0_ok {hl0 : Nat} {x y : CV0} {v : Value} (hf : FillOk f hl0 hl' μ μ' ρ) (hst : Stays F F' w w) (h : leCV0 f hl0 x y = true) (hv : CVR0 w F hl μ ρ y v) : CVR0 w F' hl' μ' (f.env ρ) x v := by
 cases x with
 | undef => trivial
 | nils =>
  cases y <;> simp only [leCV0] at h <;> first | exact hv | cases h
 | dat t x =>
  cases y <;> simp only [leCV0] at h <;> try cases h
  ·
   cases t with
   | b t => cases h
   | s1 e =>
    simp only [CVR0] at hv;subst hv;exact ⟨_, leAtom_ok hf.n h rfl, [], rfl, .inl ⟨⟨none, 0, rfl, fun _ => rfl⟩, rfl⟩⟩
   | s2 e =>
    simp only [CVR0] at hv;subst hv;exact ⟨_, leAtom_ok hf.n h rfl, [], rfl, .inl ⟨⟨none, 0, rfl, fun _ => rfl⟩, rfl⟩⟩
  ·rename_i u y
   simp only [Bool.and_eq_true, decide_eq_true_eq] at h;obtain ⟨rfl, h⟩ := h;obtain ⟨d, hd, hr⟩ := hv;exact ⟨d, leAtom_ok hf.n h hd, hr.mono hst⟩
 | own β =>
  cases y <;> simp only [leCV0] at h <;> try cases h
  ·simp only [Bool.and_eq_true, decide_eq_true_eq] at h
   have hb := hf.ok β h.1.1;simp only [CVR0] at hv;subst hv;have := hf.nil _ h.1.2 h.2;refine ⟨hb, ?_, ?_⟩
   ·rw [hf.v hb, this]
   ·rw [hf.v hb, this]; exact ⟨_, _, _, rfl⟩
  ·rename_i γ
   simp only [Bool.and_eq_true, beq_iff_eq] at h;obtain ⟨h1, rfl⟩ := h;have hb := hf.ok β h1;obtain ⟨_, rfl, hs⟩ := hv;exact ⟨hb, (hf.v hb).symm, by rw [hf.v hb]; exact hs⟩
 | vptr β o =>
  cases y <;> simp only [leCV0] at h <;> try cases h
  rename_i γ p;simp only [Bool.and_eq_true, beq_iff_eq] at h;obtain ⟨⟨h1, rfl⟩, rfl⟩ := h;have hb := hf.ok β h1;obtain ⟨_, b, e1, e2⟩ := hv;exact ⟨hb, b, by rw [hf.v hb]; exact e1, e2⟩
 | eptr β i s o =>
  cases y <;> simp only [leCV0] at h <;> try cases h
  rename_i γ j s' p;simp only [Bool.and_eq_true, beq_iff_eq] at h;obtain ⟨⟨⟨⟨h1, rfl⟩, h2⟩, rfl⟩, rfl⟩ := h;have hb := hf.ok β h1;obtain ⟨_, b, len, cap, n, e1, e2, e3⟩ := hv;exact ⟨hb, b, len, cap, n, by rw [hf.v hb]; exact e1, leAtom_ok hf.n h2 e2, e3⟩
 | rref β ver d i y' => cases y <;> simp only [leCV0] at h <;> cases h
 | rptr β ver d i y' ix sz off => cases y <;> simp only [leCV0] at h <;> cases h
 | fcel cs o =>
  cases y <;> simp only [leCV0] at h <;> try cases h
  rename_i ds p;simp only [Bool.and_eq_true, beq_iff_eq] at h;obtain ⟨h1, rfl⟩ := h;obtain ⟨b, o', e1, e2, e3⟩ := hv;obtain ⟨_, i2⟩ := leList_get h1;refine ⟨b, o', e1, hst.le b e2, fun j c hj => ?_⟩
  obtain ⟨y, hy, hle⟩ := i2 j c hj;obtain ⟨u, a1, a2⟩ := e3 j y hy;exact ⟨u, a1, leFC_ok hf hst hle a2⟩
 | omap β =>
  cases y <;> simp only [leCV0] at h <;> try cases h
  rename_i γ;simp only [Bool.and_eq_true, beq_iff_eq] at h;obtain ⟨h1, rfl⟩ := h;have hb := hf.ok β h1;obtain ⟨_, rfl, hs⟩ := hv;exact ⟨hb, (hf.v hb).symm, by rw [hf.v hb]; exact hs⟩
 | mref β ver d ks y' => cases y <;> simp only [leCV0] at h <;> cases h
 | ment β ver d j y' => cases y <;> simp only [leCV0] at h <;> cases h
 | mptr β ver d ks y' i => cases y <;> simp only [leCV0] at h <;> cases h
theorem leCV_ok {hl0 : Nat} {x y : CV} {v : Value} (hf : FillOk f hl0 hl' μ μ' ρ) (hst : Stays F F' w w) (h : leCV f hl0 x y = true) (hv : CVR w F hl μ ρ y v) : CVR w F' hl' μ' (f.env ρ) x v := by
 cases x with
 | s c =>
  cases y with
  | s d =>
   cases c <;> first | trivial | exact leCV0_ok hf hst (by simpa [leCV] using h) hv
  | fn g ds => cases c <;> first | trivial | (simp [leCV] at h; done)
 | fn g cs =>
  cases y with
  | s d => simp [leCV] at h
  | fn g' ds =>
   simp only [leCV, Bool.and_eq_true, beq_iff_eq] at h;obtain ⟨rfl, h⟩ := h;obtain ⟨i1, i2⟩ := leList_get h;obtain ⟨arr, e1, e2, e3⟩ := hv;refine ⟨arr, e1, by omega, fun j c u hc hu => ?_⟩
   obtain ⟨d, hd, hle⟩ := i2 j c hc;exact leCV0_ok hf hst hle (e3 j d u hd hu)
theorem leCVs_ok {hl0 : Nat} (hf : FillOk f hl0 hl' μ μ' ρ) (hst : Stays F F' w w) : ∀ {xs ys : List CV} {vs : List Value}, leList (leCV f hl0) xs ys = true → CVRs w F hl μ ρ ys vs → CVRs w F' hl' μ' (f.env ρ) xs vs
 | [], [], [], _, _ => trivial
 | _ :: _, _ :: _, _ :: _, h, ⟨h1, h2⟩ => by simp only [leList, Bool.and_eq_true] at h;exact ⟨leCV_ok hf hst h.1 h1, leCVs_ok hf hst h.2 h2⟩
 | [], _ :: _, _, h, _ => by simp [leList] at h
 | _ :: _, [], _, h, _ => by simp [leList] at h
theorem leTup_ok {hl0 : Nat} (hf : FillOk f hl0 hl' μ μ' ρ) (hst : Stays F F' w w) : ∀ {xs ys : List (Bool × List CV)} {vs : List Value}, leList (leP f hl0) xs ys = true → TVR w F hl μ ρ ys vs → TVR w F' hl' μ' (f.env ρ) xs vs
 | [], [], [], _, _ => trivial
 | (ag, cs) :: _, (ag', cs') :: _, v :: _, h, ⟨h1, h2⟩ => by
  simp only [leList, leP, Bool.and_eq_true, beq_iff_eq] at h;obtain ⟨⟨rfl, h3⟩, h4⟩ := h;refine ⟨?_, leTup_ok hf hst h4 h2⟩
  cases ag with
  | true => obtain ⟨arr, e, hc⟩ := h1; exact ⟨arr, e, leCVs_ok hf hst h3 hc⟩
  | false =>
   obtain ⟨c, rfl, hc⟩ := h1;obtain ⟨i1, i2⟩ := leList_get h3;obtain ⟨c', rfl⟩ := List.length_eq_one_iff.1 i1;obtain ⟨y, hy, hle⟩ := i2 0 c' rfl;simp only [List.getElem?_cons_zero, Option.some.injEq] at hy;subst hy;exact ⟨c', rfl, leCV_ok hf hst hle hc⟩
 | [], _ :: _, _, h, _ => by simp [leList] at h
 | _ :: _, [], _, h, _ => by simp [leList] at h
theorem leSV_ok {hl0 : Nat} {x y : SV} {v : Value} (hf : FillOk f hl0 hl' μ μ' ρ) (hst : Stays F F' w w) (h : leSV f hl0 x y = true) (hv : SVR w F hl μ ρ y v) : SVR w F' hl' μ' (f.env ρ) x v := by
 cases x with
 | c x =>
  by_cases hu : x = .s .undef
  ·subst hu; trivial
  ·cases y with
   | c y => exact leCV_ok hf hst (by cases x with | fn _ _ => exact h | s c => cases c <;> first | exact absurd rfl hu | exact h) hv
   | agg _ => cases x with | fn _ _ => simp [leSV] at h | s c => cases c <;> first | exact absurd rfl hu | (simp [leSV] at h; done)
   | tup _ => cases x with | fn _ _ => simp [leSV] at h | s c => cases c <;> first | exact absurd rfl hu | (simp [leSV] at h; done)
   | gd _ _ _ => cases x with | fn _ _ => simp [leSV] at h | s c => cases c <;> first | exact absurd rfl hu | (simp [leSV] at h; done)
 | agg xs =>
  cases y <;> simp only [leSV] at h <;> try cases h
  obtain ⟨arr, e, hc⟩ := hv;exact ⟨arr, e, leCVs_ok hf hst h hc⟩
 | tup xs =>
  cases y <;> simp only [leSV] at h <;> try cases h
  obtain ⟨arr, e, hc⟩ := hv;exact ⟨arr, e, leTup_ok hf hst h hc⟩
 | gd g want s => cases y <;> simp [leSV] at h
theorem nodup_inj {g : Nat → Nat} : ∀ {l : List Nat}, (l.map g).Nodup → ∀ a ∈ l, ∀ b ∈ l, g a = g b → a = b
 | [], _, a, ha, _, _, _ => by simp at ha
 | c :: l, h, a, ha, b, hb, e => by
  simp only [List.map_cons, List.nodup_cons, List.mem_map, not_exists, not_and] at h
  rcases List.mem_cons.1 ha with rfl | ha' <;> rcases List.mem_cons.1 hb with rfl | hb'
  ·rfl
  ·exact absurd e.symm (h.1 b hb')
  ·exact absurd e (h.1 a ha')
  ·exact nodup_inj h.2 a ha' b hb' e
theorem liveB_iff {h : List SB} {β : Nat} : liveB h β = true ↔ live h β := by
 unfold liveB live
 cases e : h[β]? with
 | none => simp
 | some sb => cases sb <;> simp
theorem leSS_ok {Sj : SS} (h : R X M w0 S μ ρ a w) (hle : leSS f Sj S = true) (hanc : ∀ (β : Nat) v, M.anc[β]? = some v → β < f.hb) : ∃ μ', R X M w0 Sj μ' (f.env ρ) a w := by
 simp only [leSS, Bool.and_eq_true, beq_iff_eq, decide_eq_true_eq, List.all_eq_true, List.mem_range] at hle
 obtain ⟨⟨⟨⟨⟨⟨⟨⟨⟨⟨hn, hfn⟩, hθ⟩, hslots⟩, hnils⟩, hver⟩, hhb⟩, hhj⟩, hheap⟩, hok⟩, hnd⟩ := hle
 obtain ⟨μ1, hμ1, hv1⟩ : ∃ μ1 : Mu, (∀ β, β < S.heap.length → μ1 β = μ β) ∧ ∀ j k, f.nils[j]? = some k → μ1 (S.heap.length + j) = k.nilMV :=
  ⟨fun β => if β < S.heap.length then μ β else match f.nils[β - S.heap.length]? with | some k => k.nilMV | none => μ β, fun β hb => by simp [hb], fun j k hj => by
   show (if _ then _ else _) = _
   rw [if_neg (by omega), show S.heap.length + j - S.heap.length = j from by omega, hj]⟩
 have hN := R_nils h f.nils hnils hμ1 hv1
 generalize hh : S.heap ++ f.nils.map (fun k => k.sb 0 (.c (.lst []))) = h1 at hN hheap hver
 have hlen1 : h1.length = S.heap.length + f.nils.length := by rw [← hh]; simp
 have hF : FillOk f S.heap.length Sj.heap.length μ1 (fun β => (μ1 (f.blk β)).nowAs Sj.heap[β]?) ρ := by
  refine ⟨by rw [h.len]; exact hfn, fun z hz => by rw [h.len]; exact hθ z hz, fun _ _ => MV.nowAs_v, fun γ h2 h3 => ?_, fun γ v hγ => ?_, fun β hb => ?_⟩
  ·have := hv1 (γ - S.heap.length) _ (List.getElem?_eq_getElem (by omega))
   rw [show S.heap.length + (γ - S.heap.length) = γ from by omega] at this
   rw [this]
   cases f.nils[γ - S.heap.length]'(by omega) <;> rfl
  ·rw [hver, List.getElem?_map] at hγ
   cases hb : h1[γ]? with
   | none => rw [hb] at hγ; cases hγ
   | some sb =>
    rw [hb] at hγ;simp only [Option.map_some, Option.some.injEq] at hγ
    cases sb <;> simp only [verOf, Option.some.injEq, reduceCtorEq] at hγ
    all_goals
     subst hγ;exact (hN.blocks γ _ hb).1
  ·simp only [Fill.blkOk, Bool.and_eq_true, decide_eq_true_eq] at hb
   omega
 have hsb : ∀ {β sb}, Sj.heap[β]? = some sb → sb ≠ .dead → ∃ sb', h1[f.blk β]? = some sb' ∧ leSB f S.heap.length sb sb' = true := by
  intro β sb hs hd;have hb := hheap β (live_lt ⟨_, hs, hd⟩);rw [hs] at hb
  cases sb with
  | dead => exact absurd rfl hd
  | _ =>
   simp only [Bool.and_eq_true] at hb
   cases hb' : h1[f.blk β]? with
   | none => rw [hb'] at hb; simp at hb
   | some sb' => rw [hb'] at hb; exact ⟨sb', rfl, hb.2⟩
 have hlive : ∀ {β}, live Sj.heap β → live h1 (f.blk β) := by
  intro β ⟨sb, hs, hd⟩;obtain ⟨sb', h2, h3⟩ := hsb hs hd;refine ⟨sb', h2, fun e => ?_⟩
  subst e
  cases sb <;> first | exact absurd rfl hd | simp [leSB] at h3
 have hst : Stays (Fz X h1 μ1 w) (Fz X Sj.heap (fun β => (μ1 (f.blk β)).nowAs Sj.heap[β]?) w) w w := ⟨fun b hb => ⟨hb.1, fun β hl ho => hb.2 _ (hlive hl) (MV.nowAs_own ho)⟩, fun _ _ => rfl⟩
 obtain ⟨l1, l2⟩ := leList_get hslots
 refine ⟨fun β => (μ1 (f.blk β)).nowAs Sj.heap[β]?, hN.keeps, ?_, ?_, hN.defers, fun i s hs => ?_, fun β sb hs => ?_, hN.ex, fun β γ hβ hγ hne b hb hb' => ?_, fun β hβ b hb => hN.exo _ (hlive hβ) b (MV.nowAs_own hb), fun β v hv => ?_⟩
 ·have := hF.n
  simp only [Fill.env, List.length_append, List.length_take, evs, List.length_map];omega
 ·rw [l1]; exact hN.size
 ·obtain ⟨y, hy, hle⟩ := l2 i s hs
  exact leSV_ok hF hst hle (hN.slots i y hy)
 ·by_cases hd : sb = .dead
  ·subst hd; trivial
  obtain ⟨sb', h2, h3⟩ := hsb hs hd;have hB := hN.blocks _ _ h2;have hfz : ∀ {t e x}, sb = .row t e x → (μ1 (f.blk β)).nowAs Sj.heap[β]? = ⟨(μ1 (f.blk β)).v, []⟩ := fun {t e x} he => by rw [hs, he]; rfl
  have hnf : (∀ t e x, sb ≠ .row t e x) → (μ1 (f.blk β)).nowAs Sj.heap[β]? = (μ1 (f.blk β)).now := fun hno => by
   rw [hs]
   cases sb <;> first | rfl | exact absurd rfl (hno _ _ _)
  cases sb with
  | dead => trivial
  | hid => simp [leSB] at h3
  | mapz m x => cases sb' <;> simp [leSB] at h3
  | bx ts x =>
   cases sb' with
   | bx ts' y =>
    simp only [leSB, Bool.and_eq_true, decide_eq_true_eq] at h3;obtain ⟨rfl, hx⟩ := h3;obtain ⟨h0, b, arr, T, ds, e1, e2, e3, e4, e5⟩ := hB;rw [hnf (fun _ _ _ h => by cases h), MV.now_nil h0]
    exact ⟨h0, b, arr, T, ds, e1, e2, e3, leAtom_ok hF.n hx e4, e5.mono fun t v d hd => hd.mono hst⟩
   | _ => simp [leSB] at h3
  | var cs =>
   cases sb' with
   | var ys =>
    obtain ⟨h0, b, arr, T, e1, e2, e3, e4⟩ := hB;rw [hnf (fun _ _ _ h => by cases h), MV.now_nil h0]
    exact ⟨h0, b, arr, T, e1, e2, e3, leCVs_ok hF hst h3 e4⟩
   | _ => simp [leSB] at h3
  | row t e x =>
   cases sb' with
   | row t' e' y =>
    simp only [leSB, Bool.and_eq_true, decide_eq_true_eq, beq_iff_eq] at h3;obtain ⟨⟨rfl, rfl⟩, hx⟩ := h3;obtain ⟨h0, n, xs, ls, e1, e2, e3, e4, e5⟩ := hB;rw [hfz rfl];exact ⟨rfl, n, xs, ls, e1, fun b hb => e2 b (.inl (MV.flat_own hb)), leAtom_ok hF.n hx e3, e4, e5.mono hst⟩
   | rows et' g' e' v' y =>
    cases t with
    | s2 et =>
     simp only [leSB, Bool.and_eq_true, decide_eq_true_eq, beq_iff_eq] at h3;obtain ⟨⟨rfl, rfl⟩, hx⟩ := h3;obtain ⟨h0, n, ls, e1, e2, e3, e4, e5, e6, e7⟩ := hB;rw [hfz rfl];refine ⟨rfl, n, (μ1 (f.blk β)).inner, ls.map fun l => [.lst (l.map (unflat et.agg))], e1, fun b hb => e2 b (.inl (MV.flat_own hb)), ?_, by simp [e4], ?_⟩
     ·have e8 : rowsDat et.agg ls = .lst ((ls.map fun l => [D.lst (l.map (unflat et.agg))]).map (unflat (rowAgg (.s2 et)))) := by simp [rowsDat, unflat, rowAgg]
      rw [← e8];exact leAtom_ok hF.n hx e3
     ·refine rows_row e5 fun u hu b hb => ?_
      have hlv : live h1 (f.blk β) := ⟨_, h2, by simp⟩
      have hown : (μ1 (f.blk β)).own b := .inr ⟨u, hu, hb⟩;refine ⟨⟨hN.own_lt hlv hown, hN.exo _ hlv b hown⟩, fun γ hγ ho => ?_⟩
      by_cases hg : γ = β
      ·subst hg
       have ho : ((μ1 (f.blk γ)).nowAs Sj.heap[γ]?).own b := ho;rw [hfz rfl] at ho;exact e7 u hu b hb (MV.flat_own ho)
      ·refine hN.inj _ _ hlv (hlive hγ) (fun e => hg ?_) b hown (MV.nowAs_own ho)
       refine nodup_inj hnd γ ?_ β ?_ e.symm
       ·simp only [List.mem_filter, List.mem_range]; exact ⟨live_lt hγ, liveB_iff.2 hγ⟩
       ·have hβ' : live Sj.heap β := ⟨_, hs, by simp⟩
        simp only [List.mem_filter, List.mem_range]; exact ⟨live_lt hβ', liveB_iff.2 hβ'⟩
    | _ => simp [leSB] at h3
   | _ => simp [leSB] at h3
  | rows et f' e v x =>
   cases sb' with
   | rows et' g' e' v' y =>
    simp only [leSB, Bool.and_eq_true, decide_eq_true_eq, beq_iff_eq] at h3;obtain ⟨⟨⟨⟨rfl, rfl⟩, rfl⟩, rfl⟩, hx⟩ := h3;obtain ⟨h0, n, ls, e1, e2, e3, e4, e5, e6, e7⟩ := hB;have hne : (μ1 (f.blk β)).hist.isEmpty = false := by
     cases h : (μ1 (f.blk β)).hist with
     | nil => rw [h] at h0; cases h0
     | cons _ _ => rfl
    rw [hnf (fun _ _ _ h => by cases h)]
    refine ⟨by simp [MV.now, hne], n, ls, by rw [MV.now_inner]; exact e1, fun b hb => e2 b (MV.now_own.1 hb), leAtom_ok hF.n hx e3, e4, by rw [MV.now_inner]; exact e5, by rw [MV.now_inner]; exact e6, by rw [MV.now_inner]; exact e7⟩
   | _ => simp [leSB] at h3
  | map m v x hole =>
   cases hole with
   | some _ => cases sb' <;> simp [leSB] at h3
   | none =>
   cases sb' with
   | map m' v' y hole' =>
    cases hole' with
    | some _ => simp [leSB] at h3
    | none =>
    simp only [leSB, Bool.and_eq_true, decide_eq_true_eq, beq_iff_eq] at h3;obtain ⟨⟨rfl, rfl⟩, hx⟩ := h3;obtain ⟨h0, e2, d, hk, e3, e4, b, es, kvs, e5, e6, rfl, e7, e8, e9⟩ := hB;have hne : (μ1 (f.blk β)).hist.isEmpty = false := by
     cases h : (μ1 (f.blk β)).hist with
     | nil => rw [h] at h0; cases h0
     | cons _ _ => rfl
    rw [hnf (fun _ _ _ h => by cases h)]
    refine ⟨by simp [MV.now, hne], fun b hb => e2 b (MV.now_own.1 hb), mD kvs, hk, leAtom_ok hF.n hx e3, ?_, b, es, kvs, e5, e6, rfl, by rw [MV.now_inner]; exact e7, by rw [MV.now_inner]; exact e8, by rw [MV.now_inner]; exact e9⟩
    cases hk with
    | none => trivial
    | some _ => exact e4.elim
   | _ => simp [leSB] at h3
 ·refine hN.inj _ _ (hlive hβ) (hlive hγ) (fun e => hne ?_) b (MV.nowAs_own hb) (MV.nowAs_own hb')
  refine nodup_inj hnd β ?_ γ ?_ e
  ·simp only [List.mem_filter, List.mem_range]; exact ⟨live_lt hβ, liveB_iff.2 hβ⟩
  ·simp only [List.mem_filter, List.mem_range]; exact ⟨live_lt hγ, liveB_iff.2 hγ⟩
 ·have hb := hanc β v hv
  refine ⟨Nat.lt_of_lt_of_le hb hhj, ?_⟩;show ((μ1 (f.blk β)).nowAs Sj.heap[β]?).v = v;rw [MV.nowAs_v, show f.blk β = β from by simp [Fill.blk, hb], hμ1 β (h.anc β v hv).1]
  exact (h.anc β v hv).2
end
end Vs

namespace Vs
open Go Go.RowKit
def lastLv (f : Nat → Bool) : Nat → Nat
 | 0 => 0
 | i + 1 => if f i then i + 1 else lastLv f i
theorem lastLv_le (f : Nat → Bool) : ∀ N, lastLv f N ≤ N
 | 0 => Nat.le_refl _
 | i + 1 => by
  unfold lastLv;split
  ·exact Nat.le_refl _
  ·exact Nat.le_succ_of_le (lastLv_le f i)
theorem lastLv_congr {f g : Nat → Bool} : ∀ {N : Nat}, (∀ j, j < N → f j = g j) → lastLv f N = lastLv g N
 | 0, _ => rfl
 | i + 1, h => by unfold lastLv;rw [h i (Nat.lt_succ_self i), lastLv_congr fun j hj => h j (Nat.lt_succ_of_lt hj)]
theorem lastLv_cut {f : Nat → Bool} {i : Nat} : ∀ {N : Nat}, i ≤ N → (∀ j, i ≤ j → j < N → f j = false) → lastLv f N = lastLv f i
 | 0, h, _ => by rw [Nat.le_zero.1 h]
 | N + 1, h, hf => by
  rcases Nat.lt_or_eq_of_le h with hlt | rfl
  ·have hle : i ≤ N := Nat.le_of_lt_succ hlt
   rw [lastLv, hf N hle (Nat.lt_succ_self N)];simp only [Bool.false_eq_true, if_false];exact lastLv_cut hle fun j h1 h2 => hf j h1 (Nat.lt_succ_of_lt h2)
  ·rfl
theorem lastLv_at {f : Nat → Bool} {i N : Nat} (hi : i < N) (h : f i = true) (hf : ∀ j, i < j → j < N → f j = false) : lastLv f N = i + 1 := by
 rw [lastLv_cut (i := i + 1) hi (fun j h1 h2 => hf j h1 h2), lastLv, h]
 rfl
theorem lastLv_val {α : Type} {f : Nat → Bool} {v : Nat → α} : ∀ {N : Nat}, (∀ j, j < N → f j = false → v (j + 1) = v j) → v (lastLv f N) = v N
 | 0, _ => rfl
 | N + 1, h => by
  unfold lastLv
  cases hf : f N with
  | true => rfl
  | false =>
   simp only [Bool.false_eq_true, if_false];rw [h N (Nat.lt_succ_self N) hf];exact lastLv_val fun j hj => h j (Nat.lt_succ_of_lt hj)
theorem lastLv_spec {f : Nat → Bool} : ∀ {N : Nat}, lastLv f N = 0 ∨ ∃ j, j < N ∧ lastLv f N = j + 1 ∧ f j = true
 | 0 => .inl rfl
 | N + 1 => by
  unfold lastLv
  cases hf : f N with
  | true => exact .inr ⟨N, Nat.lt_succ_self N, rfl, hf⟩
  | false =>
   simp only [Bool.false_eq_true, if_false]
   rcases lastLv_spec (f := f) (N := N) with h | ⟨j, h1, h2, h3⟩
   ·exact .inl h
   ·exact .inr ⟨j, Nat.lt_succ_of_lt h1, h2, h3⟩
def refs0 (p : Nat → Bool) : CV0 → Bool
 | .own β => p β
 | .vptr β _ => p β
 | .eptr β _ _ _ => p β
 | .rref β _ _ _ _ => p β
 | .rptr β _ _ _ _ _ _ _ => p β
 | .fcel cs _ => cs.all fun c => match c with | .o β => p β | .p β => p β | .d _ _ => true
 | .omap β => p β
 | .mref β _ _ _ _ => p β
 | .ment β _ _ _ _ => p β
 | .mptr β _ _ _ _ _ => p β
 | _ => true
def refsCV (p : Nat → Bool) : CV → Bool
 | .s c => refs0 p c
 | .fn _ caps => caps.all (refs0 p)
def refsSV (p : Nat → Bool) : SV → Bool
 | .c x => refsCV p x
 | .agg cs => cs.all (refsCV p)
 | .tup vs => vs.all fun x => x.2.all (refsCV p)
 | .gd _ _ s => refsSV p s
def refsSB (p : Nat → Bool) : SB → Bool
 | .var cs => cs.all (refsCV p)
 | _ => true
section
variable {w : World} {F : Nat → Prop} {hl : Nat} {μ μ' : Mu} {ρ : List D} {p : Nat → Bool}
def MuUp (p : Nat → Bool) (hl : Nat) (μ μ' : Mu) : Prop := ∀ β, p β = true → β < hl → (μ' β).v = (μ β).v ∧ ∃ ext, (μ' β).hist = (μ β).hist ++ ext
theorem refs0_ok (hp : MuUp p hl μ μ') {c : CV0} {v : Value} (hr : refs0 p c = true) (h : CVR0 w F hl μ ρ c v) : CVR0 w F hl μ' ρ c v := by
 cases c with
 | undef => trivial
 | nils => exact h
 | dat t x => exact h
 | own β => obtain ⟨h1, h2⟩ := h; refine ⟨h1, ?_⟩; rw [(hp β hr h1).1]; exact h2
 | vptr β off => obtain ⟨h1, h2⟩ := h; refine ⟨h1, ?_⟩; rw [(hp β hr h1).1]; exact h2
 | eptr β i sz off => obtain ⟨h1, h2⟩ := h; refine ⟨h1, ?_⟩; rw [(hp β hr h1).1]; exact h2
 | rref β ver d i y =>
  obtain ⟨h1, l, h2, h3⟩ := h;obtain ⟨_, ext, he⟩ := hp β hr h1;exact ⟨h1, l, by rw [he, List.getElem?_append_left (List.getElem?_eq_some_iff.1 h2).1]; exact h2, h3⟩
 | rptr β ver d i y ix sz off =>
  obtain ⟨h1, l, u, h2, h3⟩ := h;obtain ⟨_, ext, he⟩ := hp β hr h1;exact ⟨h1, l, u, by rw [he, List.getElem?_append_left (List.getElem?_eq_some_iff.1 h2).1]; exact h2, h3⟩
 | fcel cs off =>
  obtain ⟨b, o, h1, h2, h3⟩ := h;refine ⟨b, o, h1, h2, fun j c hj => ?_⟩
  obtain ⟨u, a1, a2⟩ := h3 j c hj;refine ⟨u, a1, ?_⟩;have := List.all_eq_true.1 hr c (List.mem_of_getElem? hj)
  cases c with
  | d t x => exact a2
  | o β => obtain ⟨g1, g2⟩ := a2; refine ⟨g1, ?_⟩; rw [(hp β this g1).1]; exact g2
  | p β => obtain ⟨g1, g2⟩ := a2; refine ⟨g1, ?_⟩; rw [(hp β this g1).1]; exact g2
 | omap β => obtain ⟨h1, h2⟩ := h; refine ⟨h1, ?_⟩; rw [(hp β hr h1).1]; exact h2
 | mref β ver d ks y =>
  obtain ⟨h1, l, h2, h3⟩ := h;obtain ⟨_, ext, he⟩ := hp β hr h1;exact ⟨h1, l, by rw [he, List.getElem?_append_left (List.getElem?_eq_some_iff.1 h2).1]; exact h2, h3⟩
 | ment β ver d j y =>
  obtain ⟨h1, l, h2, h3⟩ := h;obtain ⟨_, ext, he⟩ := hp β hr h1;exact ⟨h1, l, by rw [he, List.getElem?_append_left (List.getElem?_eq_some_iff.1 h2).1]; exact h2, h3⟩
 | mptr β ver d ks y i =>
  obtain ⟨h1, l, u, h2, h3⟩ := h;obtain ⟨_, ext, he⟩ := hp β hr h1;exact ⟨h1, l, u, by rw [he, List.getElem?_append_left (List.getElem?_eq_some_iff.1 h2).1]; exact h2, h3⟩
theorem refsCV_ok (hp : MuUp p hl μ μ') {c : CV} {v : Value} (hr : refsCV p c = true) (h : CVR w F hl μ ρ c v) : CVR w F hl μ' ρ c v := by
 cases c with
 | s c => exact refs0_ok hp hr h
 | fn f caps =>
  obtain ⟨cs, h1, h2, h3⟩ := h;exact ⟨cs, h1, h2, fun j c u hc hu => refs0_ok hp (List.all_eq_true.1 hr c (List.mem_of_getElem? hc)) (h3 j c u hc hu)⟩
theorem refsCVs_ok (hp : MuUp p hl μ μ') : ∀ {cs : List CV} {vs : List Value}, cs.all (refsCV p) = true → CVRs w F hl μ ρ cs vs → CVRs w F hl μ' ρ cs vs
 | [], [], _, _ => trivial
 | _ :: _, _ :: _, hr, ⟨a, b⟩ => by simp only [List.all_cons, Bool.and_eq_true] at hr;exact ⟨refsCV_ok hp hr.1 a, refsCVs_ok hp hr.2 b⟩
theorem refsTV_ok (hp : MuUp p hl μ μ') : ∀ {cs : List (Bool × List CV)} {vs : List Value}, (cs.all fun x => x.2.all (refsCV p)) = true → TVR w F hl μ ρ cs vs → TVR w F hl μ' ρ cs vs
 | [], [], _, _ => trivial
 | (ag, cs) :: _, _ :: _, hr, ⟨a, b⟩ => by
  simp only [List.all_cons, Bool.and_eq_true] at hr;refine ⟨?_, refsTV_ok hp hr.2 b⟩
  cases ag with
  | true => obtain ⟨arr, e, hc⟩ := a; exact ⟨arr, e, refsCVs_ok hp hr.1 hc⟩
  | false =>
   obtain ⟨c, rfl, hc⟩ := a;have := hr.1;simp only [List.all_cons, List.all_nil, Bool.and_true] at this;exact ⟨c, rfl, refsCV_ok hp this hc⟩
theorem refsSV_ok (hp : MuUp p hl μ μ') : ∀ {s : SV} {v : Value}, refsSV p s = true → SVR w F hl μ ρ s v → SVR w F hl μ' ρ s v
 | .c _, _, hr, h => refsCV_ok hp hr h
 | .agg _, _, hr, ⟨arr, e, hc⟩ => ⟨arr, e, refsCVs_ok hp hr hc⟩
 | .tup _, _, hr, ⟨arr, e, hc⟩ => ⟨arr, e, refsTV_ok hp hr hc⟩
 | .gd _ _ _, _, hr, ⟨h0, h1, h2⟩ => ⟨h0, fun hg => refsSV_ok hp hr (h1 hg), h2⟩
theorem refsSB_ok {Mine : Nat → Prop} (hp : MuUp p hl μ μ') {sb : SB} {v : MV} (hr : refsSB p sb = true) (h : BlkR Mine w F hl μ ρ sb v) : BlkR Mine w F hl μ' ρ sb v := by
 cases sb with
 | var cs => obtain ⟨h0, b, arr, T, h1, h2, h3, h4⟩ := h; exact ⟨h0, b, arr, T, h1, h2, h3, refsCVs_ok hp hr h4⟩
 | _ => exact h
end
end Vs

namespace Vs
open Go Go.RowKit
structure Rg where
 N : Nat
 A : Nat → SS
 V : Nat → SS
 S' : Nat → SS
 g : Nat → Guard
 eff : Nat → Eff
 dst : Nat → Option Nat
 tch : Nat → List Nat
 bef : Nat → Nat → Bool
namespace Rg
variable (r : Rg)
def n (i : Nat) : Nat := (r.A i).n
def len (i : Nat) : Nat := (r.A i).heap.length
def un (i j : Nat) : Bool := j != i && !r.bef i j && !r.bef j i
def wrB (i β : Nat) : Bool := (r.tch i).contains β || (decide (r.len i ≤ β) && decide (β < r.len (i + 1)))
def p (i β : Nat) : Bool := (List.range r.N).all fun j => !(r.un i j && decide (r.len j ≤ β) && decide (β < r.len (j + 1)))
structure SoftAt (i β j : Nat) (m : MPK) (d : Atom) : Prop where
 lt : i < j
 jN : j < r.N
 wr : r.wrB j β = true
 uniq : ∀ j', j' < r.N → r.un i j' = true → r.wrB j' β = true → j' = j
 ai : ∃ ver d0, (r.A i).heap[β]? = some (.map m ver d0 none) ∧ ∀ ρ, d.get ρ = d0.get ρ
 dn : ∀ k, d = .v k → k < r.n i
 g : r.g j = none
 eff : ∃ ks x z rest b, r.eff j = .prims ((.mkagg, ks) :: (.ment, [x, .v (r.n j), .c z]) :: rest) ∧ (∀ ρ, d.get ρ = x.get ρ) ∧ m.v = .b b ∧ zeroB b = some z
 aj : ∃ ver, (r.A (j + 1)).heap[β]? = some (.map m ver (.v (r.n j + 1)) none)
structure Ok (E : Env) (ops : Array Oper) : Prop where
 size : ops.size = r.N
 op : ∀ i o, ops[i]? = some o → sop E ops.toList (r.V i) o = .ok (r.S' i, r.g i, r.eff i, r.tch i) ∧ o.dst = r.dst i
 edgeLt : ∀ i o e, ops[i]? = some o → e ∈ o.after → Region.binds .any e = true → e.on < i
 befE : ∀ i o j, ops[i]? = some o → r.bef i j = true → ∃ e, e ∈ o.after ∧ Region.binds .any e = true ∧ (j = e.on ∨ r.bef e.on j = true)
 vn : ∀ i, i < r.N → (r.V i).n = r.n i
 vslen : ∀ i, i < r.N → (r.V i).slots.length = (r.A i).slots.length
 vslot : ∀ i, i < r.N → ∀ (k : Nat) s, (r.V i).slots[k]? = some s → s = SV.undef ∨ ((r.A i).slots[k]? = some s ∧ ∀ j, j < r.N → r.un i j = true → r.dst j ≠ some k)
 vhlen : ∀ i, i < r.N → (r.V i).heap.length = r.len i
 vblk : ∀ i, i < r.N → ∀ (β : Nat) sb, (r.V i).heap[β]? = some sb → sb = .dead ∨ ((r.A i).heap[β]? = some sb ∧ ∀ j, j < r.N → r.un i j = true → r.wrB j β = false) ∨ ∃ m d j, sb = .mapz m d ∧ r.SoftAt i β j m d
 an : ∀ i, i < r.N → r.n (i + 1) = (r.S' i).n
 anMono : ∀ i, i < r.N → r.n i ≤ r.n (i + 1)
 aslen : ∀ i, i < r.N → (r.A (i + 1)).slots.length = (r.A i).slots.length
 aslot : ∀ i, i < r.N → ∀ (k : Nat), (r.A (i + 1)).slots[k]? = if r.dst i = some k then (r.S' i).slots[k]? else (r.A i).slots[k]?
 alen : ∀ i, i < r.N → r.len (i + 1) = (r.S' i).heap.length
 ablk : ∀ i, i < r.N → ∀ (β : Nat), (r.A (i + 1)).heap[β]? = if r.wrB i β = true then (r.S' i).heap[β]? else (r.A i).heap[β]?
 lenS : ∀ i, i < r.N → r.len i ≤ r.len (i + 1)
 tlive : ∀ i, i < r.N → ∀ β, β ∈ r.tch i → live (r.V i).heap β
 cS : ∀ i j k, i < j → j < r.N → r.dst i = some k → r.dst j = some k → r.bef j i = true
 cB : ∀ i j β, i < j → j < r.N → r.wrB i β = true → r.wrB j β = true → r.bef j i = true
 refS : ∀ i, i < r.N → ∀ (k : Nat) s, r.dst i = some k → (r.S' i).slots[k]? = some s → refsSV (r.p i) s = true
 refB : ∀ i, i < r.N → ∀ (β : Nat) sb, r.wrB i β = true → (r.S' i).heap[β]? = some sb → refsSB (r.p i) sb = true
def lvS (L : Nat → Bool) (k : Nat) : Nat := lastLv (fun i => L i && r.dst i == some k) r.N
def lvB (L : Nat → Bool) (β : Nat) : Nat := lastLv (fun i => L i && r.wrB i β) r.N
def liveL (L : Nat → Bool) (β : Nat) : Prop := live (r.A (r.lvB L β)).heap β
def FL (X : Nat → Prop) (L : Nat → Bool) (μ : Mu) (w : World) (b : Nat) : Prop := (b < w.heap.size ∧ ¬ X b) ∧ ∀ β, r.liveL L β → ¬ (μ β).own b
end Rg
structure RL (r : Rg) (X : Nat → Prop) (M : Hand) (w0 : World) (L : Nat → Bool) (μ : Mu) (ρN : List D) (a : Act) (w : World) : Prop where
 keeps : Keeps M w0 w
 size : a.tmps.size = (r.A 0).slots.length
 defers : a.defers = []
 slots : ∀ (k : Nat) s, (r.A (r.lvS L k)).slots[k]? = some s → SVR w (r.FL X L μ w) (r.len (r.lvS L k)) μ (ρN.take (r.n (r.lvS L k))) s (a.tmps.getD k Go.undef)
 blocks : ∀ (β : Nat) sb, (r.A (r.lvB L β)).heap[β]? = some sb → BlkR (fun b => w0.heap.size ≤ b ∨ M b) w (r.FL X L μ w) (r.len (r.lvB L β)) μ (ρN.take (r.n (r.lvB L β))) sb (μ β)
 ex : ∀ b, X b → b < w.heap.size
 inj : ∀ β γ, r.liveL L β → r.liveL L γ → β ≠ γ → ∀ b, (μ β).own b → ¬ (μ γ).own b
 exo : ∀ β, r.liveL L β → ∀ b, (μ β).own b → ¬ X b
 anc : ∀ (β : Nat) v, M.anc[β]? = some v → β < r.len 0 ∧ (μ β).v = v
structure Down (r : Rg) (L : Nat → Bool) : Prop where
 bef : ∀ i j, i < r.N → L i = true → r.bef i j = true → L j = true
section
variable {r : Rg} {E : Env} {ops : Array Oper} {X : Nat → Prop} {M : Hand} {w0 w : World} {L : Nat → Bool} {μ : Mu} {ρN : List D} {a : Act}
theorem Rg.Ok.befLt (h : r.Ok E ops) : ∀ i, i < r.N → ∀ j, r.bef i j = true → j < i := by
 intro i
 induction i using Nat.strongRecOn with
 | ind i ih =>
  intro hi j hj;have hsz : i < ops.size := by rw [h.size]; exact hi
  obtain ⟨e, he, hb, hor⟩ := h.befE i ops[i] j (by simp [hsz]) hj
  have hlt := h.edgeLt i ops[i] e (by simp [hsz]) he hb
  rcases hor with rfl | h2
  ·exact hlt
  ·exact Nat.lt_trans (ih e.on hlt (Nat.lt_trans hlt hi) j h2) hlt
theorem Rg.Ok.nMono (h : r.Ok E ops) {i j : Nat} (hij : i ≤ j) (hj : j ≤ r.N) : r.n i ≤ r.n j := by
 induction j with
 | zero => rw [Nat.le_zero.1 hij]; exact Nat.le_refl _
 | succ j ih =>
  rcases Nat.lt_or_eq_of_le hij with hlt | rfl
  ·exact Nat.le_trans (ih (Nat.le_of_lt_succ hlt) (Nat.le_of_lt hj)) (h.anMono j hj)
  ·exact Nat.le_refl _
theorem Rg.Ok.lenStep (h : r.Ok E ops) {i : Nat} (hi : i < r.N) : r.len i ≤ r.len (i + 1) := h.lenS i hi
theorem Rg.Ok.lenMono (h : r.Ok E ops) {i j : Nat} (hij : i ≤ j) (hj : j ≤ r.N) : r.len i ≤ r.len j := by
 induction j with
 | zero => rw [Nat.le_zero.1 hij]; exact Nat.le_refl _
 | succ j ih =>
  rcases Nat.lt_or_eq_of_le hij with hlt | rfl
  ·exact Nat.le_trans (ih (Nat.le_of_lt_succ hlt) (Nat.le_of_lt hj)) (h.lenStep hj)
  ·exact Nat.le_refl _
theorem Rg.Ok.slenMono (h : r.Ok E ops) : ∀ i, i ≤ r.N → (r.A i).slots.length = (r.A 0).slots.length
 | 0, _ => rfl
 | i + 1, hi => (h.aslen i hi).trans (Rg.Ok.slenMono h i (Nat.le_of_lt hi))
theorem Rg.Ok.lvS_view (h : r.Ok E ops) (hD : Down r L) {i : Nat} (hi : i < r.N) (hni : L i = false) (hrd : ∀ j, r.bef i j = true → L j = true) {k : Nat} (hk : ∀ j, j < r.N → r.un i j = true → r.dst j ≠ some k) :
  r.lvS L k ≤ i ∧ (r.A (r.lvS L k)).slots[k]? = (r.A i).slots[k]? := by
 have key : ∀ j, j < r.N → r.dst j = some k → (i ≤ j → L j = false) ∧ (j < i → L j = true) := by
  intro j hj hd;refine ⟨fun hij => ?_, fun hji => ?_⟩
  ·rcases Nat.lt_or_eq_of_le hij with hlt | rfl
   ·cases hL : L j with
    | false => rfl
    | true =>
     cases hb : r.bef j i with
     | true => rw [hD.bef j i hj hL hb] at hni; cases hni
     | false =>
      cases hb2 : r.bef i j with
      | true => have := h.befLt i hi j hb2; omega
      | false =>
       exact absurd hd (hk j hj (by simp [Rg.un, hb, hb2]; omega))
   ·exact hni
  ·cases hb : r.bef i j with
   | true => exact hrd j hb
   | false =>
    cases hb2 : r.bef j i with
    | true => have := h.befLt j hj i hb2; omega
    | false => exact absurd hd (hk j hj (by simp [Rg.un, hb, hb2]; omega))
 have e1 : r.lvS L k = lastLv (fun j => r.dst j == some k) i := by
  unfold Rg.lvS
  rw [lastLv_cut (i := i) (Nat.le_of_lt hi) (fun j h1 h2 => by
   cases hd : (r.dst j == some k) with
   | false => simp
   | true => simp [(key j h2 (by simpa using hd)).1 h1])]
  refine lastLv_congr fun j hj => ?_
  cases hd : (r.dst j == some k) with
  | false => simp
  | true => simp [(key j (Nat.lt_trans hj hi) (by simpa using hd)).2 hj]
 rw [e1]
 refine ⟨lastLv_le _ _, lastLv_val (v := fun i => (r.A i).slots[k]?) fun j hj hf => ?_⟩
 show (r.A (j + 1)).slots[k]? = _
 rw [h.aslot j (Nat.lt_trans hj hi), if_neg (by simpa using hf)]
theorem Rg.Ok.lvB_view (h : r.Ok E ops) (hD : Down r L) {i : Nat} (hi : i < r.N) (hni : L i = false) (hrd : ∀ j, r.bef i j = true → L j = true) {β : Nat} (hk : ∀ j, j < r.N → r.un i j = true → (j < i ∨ L j = true) → r.wrB j β = false) :
  r.lvB L β ≤ i ∧ (r.A (r.lvB L β)).heap[β]? = (r.A i).heap[β]? := by
 have key : ∀ j, j < r.N → r.wrB j β = true → (i ≤ j → L j = false) ∧ (j < i → L j = true) := by
  intro j hj hd;refine ⟨fun hij => ?_, fun hji => ?_⟩
  ·rcases Nat.lt_or_eq_of_le hij with hlt | rfl
   ·cases hL : L j with
    | false => rfl
    | true =>
     cases hb : r.bef j i with
     | true => rw [hD.bef j i hj hL hb] at hni; cases hni
     | false =>
      cases hb2 : r.bef i j with
      | true => have := h.befLt i hi j hb2; omega
      | false =>
       have := hk j hj (by simp [Rg.un, hb, hb2]; omega) (.inr hL)
       rw [this] at hd; cases hd
   ·exact hni
  ·cases hb : r.bef i j with
   | true => exact hrd j hb
   | false =>
    cases hb2 : r.bef j i with
    | true => have := h.befLt j hj i hb2; omega
    | false =>
     have := hk j hj (by simp [Rg.un, hb, hb2]; omega) (.inl hji)
     rw [this] at hd; cases hd
 have e1 : r.lvB L β = lastLv (fun j => r.wrB j β) i := by
  unfold Rg.lvB
  rw [lastLv_cut (i := i) (Nat.le_of_lt hi) (fun j h1 h2 => by
   cases hd : r.wrB j β with
   | false => simp
   | true => simp [(key j h2 hd).1 h1])]
  refine lastLv_congr fun j hj => ?_
  cases hd : r.wrB j β with
  | false => simp
  | true => simp [(key j (Nat.lt_trans hj hi) hd).2 hj]
 rw [e1]
 refine ⟨lastLv_le _ _, lastLv_val (v := fun i => (r.A i).heap[β]?) fun j hj hf => ?_⟩
 show (r.A (j + 1)).heap[β]? = _
 rw [h.ablk j (Nat.lt_trans hj hi), if_neg (by simp [hf])]
theorem RL.own_lt (h : RL r X M w0 L μ ρN a w) {β : Nat} (hl : r.liveL L β) {b : Nat} (hb : (μ β).own b) : b < w.heap.size := by
 obtain ⟨sb, hs, hd⟩ := hl
 exact (h.blocks β sb hs).lt hd hb
def exV (r : Rg) (X : Nat → Prop) (L : Nat → Bool) (μ : Mu) (i : Nat) (b : Nat) : Prop := X b ∨ ∃ β, r.liveL L β ∧ ¬ live (r.V i).heap β ∧ (μ β).own b
def Chain (G : Nat → List D → Option (List D)) (r : Rg) (ρN : List D) : Prop :=
 ρN.length = r.n r.N ∧ ∀ i, i < r.N → ((r.g i).ok (ρN.take (r.n i)) = true → effRun G (ρN.take (r.n i)) (r.eff i) = some (ρN.take (r.n (i + 1)))) ∧
  ((r.g i).ok (ρN.take (r.n i)) = false → ρN.take (r.n (i + 1)) = ρN.take (r.n i) ++ List.replicate (effLen (r.eff i)) .undef)
theorem MapR.look {m : MPK} {bt : BT} {es : List MapEntry} {kvs : List (List Int × D)} {us : List Value} {z : D} (h : MapR w m es kvs us none) (hv : m.v = .b bt) : MapZ m bt es (kvs.map kvF) z := by
 refine ⟨fun e he => ?_, fun ns hn hr => ⟨fun hno => ?_, fun e he hk => ?_⟩⟩
 ·obtain ⟨j, hj⟩ := List.getElem?_of_mem he
  have hlt : j < kvs.length := by rw [← h.len]; exact (List.getElem?_eq_some_iff.1 hj).1
  obtain ⟨e', kv, u, g1, g2, g3⟩ := h.at hlt;rw [hj] at g1
  cases g1
  obtain ⟨_, q2, _⟩ := h.ent j e kv u hj g2 g3;exact ⟨kv.1, q2, h.key j kv g2⟩
 ·rw [mfind_no]
  ·rfl
  ·intro kv hkv e1
   obtain ⟨j, hj⟩ := List.getElem?_of_mem hkv;obtain ⟨e, kv', u, g1, g2, g3⟩ := h.at (List.getElem?_eq_some_iff.1 hj).1;rw [hj] at g2
   cases g2
   obtain ⟨_, q2, _⟩ := h.ent j e kv u g1 hj g3;exact hno e (List.mem_of_getElem? g1) (by rw [q2, e1])
 ·obtain ⟨j, hj⟩ := List.getElem?_of_mem he
  have hlt : j < kvs.length := by rw [← h.len]; exact (List.getElem?_eq_some_iff.1 hj).1
  obtain ⟨e', kv, u, g1, g2, g3⟩ := h.at hlt;rw [hj] at g1
  cases g1
  obtain ⟨_, q2, _, q4⟩ := h.ent j e kv u hj g2 g3;obtain ⟨q5, q6⟩ := q4 (by simp)
  rw [mfind_at h.nodup g2 (kVal_inj (by rw [← q2, hk]))]
  rw [hv, q5] at q6;exact q6
theorem soft_blk {G : Nat → List D → Option (List D)} (h : r.Ok E ops) (hC : Chain G r ρN) (hD : Down r L) (hR : RL r X M w0 L μ ρN a w) {i : Nat} (hi : i < r.N) (hni : L i = false) (hrd : ∀ j, r.bef i j = true → L j = true) {β j : Nat} {m : MPK} {d : Atom} (hs : r.SoftAt i β j m d) :
  r.liveL L β ∧ ∃ b es l bt z, m.v = .b bt ∧ zeroB bt = some z ∧ (μ β).v = .map (some b) ∧ w.heap[b]? = some (.map es es.size) ∧ d.get (ρN.take (r.n i)) = some (.lst l) ∧ MapZ m bt es.toList l z := by
 obtain ⟨ks, x, z, rest, bt, he1, he2, he3, he4⟩ := hs.eff
 by_cases hj : L j = true
 ·
  have hlv : r.lvB L β = j + 1 := by
   refine lastLv_at hs.jN (by simp [hj, hs.wr]) fun q hq1 hq2 => ?_
   cases hL : L q with
   | false => simp
   | true =>
    cases hw : r.wrB q β with
    | false => simp
    | true =>
     exfalso
     cases hb : r.bef q i with
     | true => rw [hD.bef q i hq2 hL hb] at hni; cases hni
     | false =>
      cases hb2 : r.bef i q with
      | true => have := h.befLt i hi q hb2; have := hs.lt; omega
      | false =>
       have := hs.uniq q hq2 (by simp [Rg.un, hb, hb2]; have := hs.lt; omega) hw
       omega
  obtain ⟨ver, hA⟩ := hs.aj;have hbl := hR.blocks β _ (by rw [hlv]; exact hA)
  rw [hlv] at hbl;obtain ⟨_, _, d', hk, hd', hhole, b, es, kvs', hv, hg, rfl, hmr, _⟩ := hbl;have hkn : hk = none := by cases hk with | none => rfl | some _ => exact hhole.elim
  subst hkn;obtain ⟨c1, _⟩ := hC.2 j hs.jN;have c2 := c1 (by rw [hs.g]; rfl)
  rw [he1] at c2;simp only [effRun] at c2;have hlenj : (ρN.take (r.n j)).length = r.n j := by rw [List.length_take, hC.1];exact Nat.min_eq_left (h.nMono (Nat.le_of_lt hs.jN) (Nat.le_refl _))
  rw [show (Prim.mkagg, ks) :: (Prim.ment, [x, Atom.v (r.n j), Atom.c z]) :: rest = [(Prim.mkagg, ks)] ++ ([(Prim.ment, [x, Atom.v (r.n j), Atom.c z])] ++ rest) from rfl, pushAll_append] at c2
  obtain ⟨ρ1, p1, p2⟩ := Option.bind_eq_some_iff.1 c2;obtain ⟨d1, e1, rfl⟩ := pushAll_one p1;rw [pushAll_append] at p2;obtain ⟨ρ2, p3, p4⟩ := Option.bind_eq_some_iff.1 p2;obtain ⟨d2, e2, rfl⟩ := pushAll_one p3;obtain ⟨σ, hσ, _⟩ := pushAll_env p4;simp only [Prim.ev, Option.some.injEq] at e1;subst e1;have g2 : (Atom.v (r.n j)).get (ρN.take (r.n j) ++ [D.agg (evs (ρN.take (r.n j)) ks)]) = some (D.agg (evs (ρN.take (r.n j)) ks)) := get_new hlenj;have g3 : (Atom.c z).get (ρN.take (r.n j) ++ [D.agg (evs (ρN.take (r.n j)) ks)]) = some z := rfl;obtain ⟨l, hl⟩ : ∃ l, x.ev (ρN.take (r.n j) ++ [D.agg (evs (ρN.take (r.n j)) ks)]) = .lst l := by
   rw [evs, List.map_cons] at e2
   cases hx : x.ev (ρN.take (r.n j) ++ [D.agg (evs (ρN.take (r.n j)) ks)]) with
   | lst l => exact ⟨l, rfl⟩
   | _ => rw [hx] at e2; simp [Prim.ev] at e2
  have hdl : d.get (ρN.take (r.n i)) = some (.lst l) := by
   have hx1 : x.get (ρN.take (r.n j) ++ [D.agg (evs (ρN.take (r.n j)) ks)]) = some (.lst l) := by
    cases x with
    | c c0 => simpa [Atom.ev, Atom.get] using hl
    | v k =>
     simp only [Atom.ev, List.getD_eq_getElem?_getD] at hl
     cases hk : (ρN.take (r.n j) ++ [D.agg (evs (ρN.take (r.n j)) ks)])[k]? with
     | none => rw [hk] at hl; cases hl
     | some y => rw [hk] at hl; simp only [Option.getD_some] at hl; simp [Atom.get, hk, hl]
   rw [← he2] at hx1
   cases hdd : d with
   | c c0 => rw [hdd] at hx1; exact hx1
   | v k =>
    rw [hdd] at hx1;have hk := hs.dn k hdd;have hij := h.nMono (Nat.le_of_lt hs.lt) (Nat.le_of_lt hs.jN);simp only [Atom.get] at hx1 ⊢;rw [List.getElem?_append_left (by rw [hlenj]; omega), List.getElem?_take, if_pos (by omega)] at hx1
    rw [List.getElem?_take, if_pos hk];exact hx1
  simp only [evs, List.map_cons, List.map_nil] at e2;rw [show (x.ev (ρN.take (r.n j) ++ [D.agg (ks.map (Atom.ev (ρN.take (r.n j))))])) = .lst l from hl, show (Atom.v (r.n j)).ev (ρN.take (r.n j) ++ [D.agg (ks.map (Atom.ev (ρN.take (r.n j))))]) = D.agg (ks.map (Atom.ev (ρN.take (r.n j)))) from Atom.ev_of_get g2, show (Atom.c z).ev (ρN.take (r.n j) ++ [D.agg (ks.map (Atom.ev (ρN.take (r.n j))))]) = z from rfl] at e2
  simp only [Prim.ev] at e2;split at e2
  case isFalse => cases e2
  rename_i hok;simp only [Option.some.injEq] at e2;obtain ⟨kvs, rfl⟩ := mOk_inv hok.2;obtain ⟨ns, hns⟩ := kInt_inv (kOk_int hok.1);rw [hns] at e2;have hgn : (Atom.v (r.n j + 1)).get (ρN.take (r.n (j + 1))) = some d2 := by rw [hσ];exact Atom.get_append (get_new (by simp [hlenj]))
  rw [hgn] at hd';simp only [Option.some.injEq] at hd';rw [← e2] at hd';have hmd : mput (ns.map D.int) ((mfind (ns.map D.int) (kvs.map kvF)).getD z) (kvs.map kvF) = kvs'.map kvF := by simp only [mD, D.lst.injEq] at hd';exact hd'
  have hz := hmr.look (bt := bt) (z := z) he3;refine ⟨⟨_, by rw [hlv]; exact hA, by simp⟩, b, es, kvs.map kvF, bt, z, he3, he4, hv, hg, hdl, hz.1, fun ms hm hr => ?_⟩
  obtain ⟨z1, z2⟩ := hz.2 ms hm hr;have hf := mfind_ment (ns := ns) (ms := ms) (z := z) (kvs := kvs);rw [hmd] at hf;rw [hf] at z1 z2;exact ⟨z1, z2⟩
 ·
  have hno : ∀ q, q < r.N → r.un i q = true → (q < i ∨ L q = true) → r.wrB q β = false := by
   intro q hq hu hor
   cases hw : r.wrB q β with
   | false => rfl
   | true =>
    have e := hs.uniq q hq hu hw;subst e
    rcases hor with h1 | h1
    ·have := hs.lt; omega
    ·exact absurd h1 hj
  obtain ⟨h3, h4⟩ := h.lvB_view hD hi hni hrd hno;obtain ⟨ver, d0, hA, hdd⟩ := hs.ai;have hA' : (r.A (r.lvB L β)).heap[β]? = some (.map m ver d0 none) := by rw [h4]; exact hA
  obtain ⟨_, _, d', hk, hd', hhole, b, es, kvs, hv, hg, rfl, hmr, _⟩ := hR.blocks β _ hA';have hkn : hk = none := by cases hk with | none => rfl | some _ => exact hhole.elim
  subst hkn;refine ⟨⟨_, hA', by simp⟩, b, es, kvs.map kvF, bt, z, he3, he4, hv, hg, ?_, hmr.look he3⟩
  rw [hdd];have h1 := h.nMono h3 (Nat.le_of_lt hi);have h2 : ρN.take (r.n (r.lvB L β)) = (ρN.take (r.n i)).take (r.n (r.lvB L β)) := by rw [List.take_take, Nat.min_eq_left h1]
  have h5 : ρN.take (r.n i) = ρN.take (r.n (r.lvB L β)) ++ (ρN.take (r.n i)).drop (r.n (r.lvB L β)) := by rw [h2, List.take_append_drop]
  rw [h5];exact Atom.get_append hd'
theorem view_ok {G : Nat → List D → Option (List D)} (hC : Chain G r ρN) (h : r.Ok E ops) (hD : Down r L) (hR : RL r X M w0 L μ ρN a w) (hN : ρN.length = r.n r.N) {i : Nat} (hi : i < r.N) (hni : L i = false) (hrd : ∀ j, r.bef i j = true → L j = true) :
  (∀ β, live (r.V i).heap β → r.liveL L β) ∧ r.FL X L μ w = Fz (exV r X L μ i) (r.V i).heap μ w ∧ R (exV r X L μ i) M w0 (r.V i) μ (ρN.take (r.n i)) a w := by
 have hlv : ∀ β, live (r.V i).heap β → r.liveL L β := by
  intro β ⟨sb, hs, hd⟩
  rcases h.vblk i hi β sb hs with rfl | ⟨h1, h2⟩ | ⟨m, d, j, rfl, hsoft⟩
  ·exact absurd rfl hd
  ·obtain ⟨_, h4⟩ := h.lvB_view hD hi hni hrd fun j hj hu _ => h2 j hj hu
   exact ⟨sb, by rw [h4]; exact h1, hd⟩
  ·exact (soft_blk h hC hD hR hi hni hrd hsoft).1
 have hF : r.FL X L μ w = Fz (exV r X L μ i) (r.V i).heap μ w := by
  funext b
  simp only [Rg.FL, Fz, exV, eq_iff_iff]
  constructor
  ·rintro ⟨⟨h1, h2⟩, h3⟩
   refine ⟨⟨h1, ?_⟩, fun β hl => h3 β (hlv β hl)⟩
   rintro (hx | ⟨β, h4, _, h5⟩)
   ·exact h2 hx
   ·exact h3 β h4 h5
  ·rintro ⟨⟨h1, h2⟩, h3⟩
   refine ⟨⟨h1, fun hx => h2 (.inl hx)⟩, fun β hl he => ?_⟩
   by_cases hv : live (r.V i).heap β
   ·exact h3 β hv he
   ·exact h2 (.inr ⟨β, hl, hv, he⟩)
 have hpre : ∀ {l : Nat}, l ≤ i → ∃ σ, ρN.take (r.n i) = ρN.take (r.n l) ++ σ := by
  intro l hl;refine ⟨(ρN.take (r.n i)).drop (r.n l), ?_⟩;have h1 := h.nMono hl (Nat.le_of_lt hi);have h2 : ρN.take (r.n l) = (ρN.take (r.n i)).take (r.n l) := by rw [List.take_take, Nat.min_eq_left h1]
  rw [h2, List.take_append_drop]
 have hgr : ∀ {l : Nat}, l ≤ i → Grows (r.FL X L μ w) (Fz (exV r X L μ i) (r.V i).heap μ w) (r.len l) (r.V i).heap.length μ μ (ρN.take (r.n l)) (ρN.take (r.n i)) w w := by intro l hl;rw [hF, h.vhlen i hi];exact ⟨⟨fun _ h => h, fun _ _ => rfl⟩, hpre hl, h.lenMono hl (Nat.le_of_lt hi), fun _ _ => ⟨rfl, [], by simp⟩⟩
 refine ⟨hlv, hF, hR.keeps, ?_, ?_, hR.defers, fun k s hs => ?_, fun β sb hs => ?_, ?_, fun β γ h1 h2 => hR.inj β γ (hlv β h1) (hlv γ h2), fun β h1 b hb => ?_, fun β v hv => ⟨Nat.lt_of_lt_of_le (hR.anc β v hv).1 (by rw [h.vhlen i hi]; exact h.lenMono (Nat.zero_le i) (Nat.le_of_lt hi)), (hR.anc β v hv).2⟩⟩
 ·rw [h.vn i hi, List.length_take, hN]
  exact Nat.min_eq_left (h.nMono (Nat.le_of_lt hi) (Nat.le_refl _))
 ·rw [hR.size, h.vslen i hi, h.slenMono i (Nat.le_of_lt hi)]
 ·rcases h.vslot i hi k s hs with rfl | ⟨h1, h2⟩
  ·trivial
  ·obtain ⟨h3, h4⟩ := h.lvS_view hD hi hni hrd h2
   exact (hR.slots k s (by rw [h4]; exact h1)).mono (hgr h3)
 ·rcases h.vblk i hi β sb hs with rfl | ⟨h1, h2⟩ | ⟨m, d, j, rfl, hsoft⟩
  ·trivial
  rotate_left
  ·obtain ⟨hlL, b, es, l, bt, z, q1, q2, q3, q4, q5, q6⟩ := soft_blk h hC hD hR hi hni hrd hsoft
   exact ⟨fun c hc => hR.own_lt hlL hc, b, es, l, bt, z, q1, q2, q3, q4, q5, q6⟩
  ·obtain ⟨h3, h4⟩ := h.lvB_view hD hi hni hrd fun j hj hu _ => h2 j hj hu
   exact (hR.blocks β sb (by rw [h4]; exact h1)).grow (hgr h3) (Nat.le_refl _) (fun _ _ => rfl)
 ·rintro b (hx | ⟨β, h4, _, h5⟩)
  ·exact hR.ex b hx
  ·exact hR.own_lt h4 h5
 ·rintro (hx | ⟨γ, h4, h5, h6⟩)
  ·exact hR.exo β (hlv β h1) b hb hx
  ·exact hR.inj β γ (hlv β h1) h4 (fun e => h5 (by rw [← e]; exact h1)) b hb h6
end
end Vs

namespace Vs
open Go Go.RowKit
section
variable {r : Rg} {E : Env} {ops : Array Oper} {X : Nat → Prop} {M : Hand} {w0 w w' : World} {L : Nat → Bool} {μ μ' : Mu} {ρN : List D} {a a' : Act}
def addL (L : Nat → Bool) (i : Nat) (j : Nat) : Bool := j == i || L j
theorem addL_ne {i j : Nat} (h : j ≠ i) : addL L i j = L j := by simp [addL, h]
theorem addL_self {i : Nat} : addL L i i = true := by simp [addL]
theorem Down.add (hD : Down r L) {i : Nat} (hrd : ∀ j, r.bef i j = true → L j = true) : Down r (addL L i) where
 bef := by
  intro j k hj hL hb
  by_cases he : j = i
  ·subst he
   have := hrd k hb;simp [addL, this]
  ·rw [addL_ne he] at hL
   have := hD.bef j k hj hL hb;simp [addL, this]
theorem Down.later (hD : Down r L) {i j : Nat} (hni : L i = false) (hj : j < r.N) (hb : r.bef j i = true) : L j = false := by
 cases hL : L j with
 | false => rfl
 | true => rw [hD.bef j i hj hL hb] at hni; cases hni
theorem Rg.Ok.lvS_add (h : r.Ok E ops) (hD : Down r L) {i : Nat} (hi : i < r.N) (hni : L i = false) (k : Nat) : r.lvS (addL L i) k = if r.dst i = some k then i + 1 else r.lvS L k := by
 unfold Rg.lvS
 split
 ·rename_i hd
  refine lastLv_at hi (by simp [addL, hd]) fun j h1 h2 => ?_
  rw [addL_ne (by omega)]
  cases hdj : (r.dst j == some k) with
  | false => simp
  | true =>
   have := hD.later hni h2 (h.cS i j k h1 h2 hd (by simpa using hdj))
   simp [this]
 ·rename_i hd
  refine lastLv_congr fun j _ => ?_
  by_cases he : j = i
  ·subst he
   have : (r.dst j == some k) = false := by simpa using hd
   simp [this]
  ·rw [addL_ne he]
theorem Rg.Ok.lvB_add (h : r.Ok E ops) (hD : Down r L) {i : Nat} (hi : i < r.N) (hni : L i = false) (β : Nat) : r.lvB (addL L i) β = if r.wrB i β = true then i + 1 else r.lvB L β := by
 unfold Rg.lvB
 split
 ·rename_i hd
  refine lastLv_at hi (by simp [addL, hd]) fun j h1 h2 => ?_
  rw [addL_ne (by omega)]
  cases hdj : r.wrB j β with
  | false => simp
  | true =>
   have := hD.later hni h2 (h.cB i j β h1 h2 hd hdj);simp [this]
 ·rename_i hd
  refine lastLv_congr fun j _ => ?_
  by_cases he : j = i
  ·subst he
   simp [hd]
  ·rw [addL_ne he]
theorem step_RL {G : Nat → List D → Option (List D)} (hC : Chain G r ρN) (h : r.Ok E ops) (hD : Down r L) (hR : RL r X M w0 L μ ρN a w) (hN : ρN.length = r.n r.N) {i : Nat} (hi : i < r.N) (hni : L i = false) (hrd : ∀ j, r.bef i j = true → L j = true)
  (hR' : R (exV r X L μ i) M w0 (r.S' i) μ' (ρN.take (r.n (i + 1))) a' w') (hf : Fr (r.V i) μ w a (r.dst i) (r.tch i) (r.S' i) μ' a' w') : ∃ μ2, RL r X M w0 (addL L i) μ2 ρN a' w' := by
 obtain ⟨hlv, hF, hRv⟩ := view_ok hC h hD hR hN hi hni hrd
 have hvl := h.vhlen i hi
 have hal := h.alen i hi
 have hls := h.lenStep hi
 have mv := hf.move
 have hnw : ∀ {β}, r.wrB i β = false → ¬ (r.len i ≤ β ∧ β < r.len (i + 1)) ∧ β ∉ r.tch i := by intro β hb;simp only [Rg.wrB, Bool.or_eq_false_iff, Bool.and_eq_false_iff, decide_eq_false_iff_not, List.contains_eq_mem] at hb;exact ⟨by omega, hb.1⟩
 have hwr : ∀ {β}, r.wrB i β = true → β ∈ r.tch i ∨ (r.len i ≤ β ∧ β < r.len (i + 1)) := by intro β hb;simpa [Rg.wrB] using hb
 generalize hμ2 : (fun β => if r.wrB i β = true then μ' β else μ β : Mu) = μ2
 have hout : ∀ {β}, r.wrB i β = false → μ2 β = μ β := by
  intro β hb;rw [← hμ2];show (if _ then _ else _) = _
  rw [if_neg (by simp [hb])]
 have hw2 : ∀ {β}, r.wrB i β = true → μ2 β = μ' β := by
  intro β hb;rw [← hμ2];show (if _ then _ else _) = _
  rw [if_pos hb]
 have hin : ∀ {β}, β < r.len (i + 1) → μ2 β = μ' β := by
  intro β hb
  cases hw : r.wrB i β with
  | true => exact hw2 hw
  | false =>
   obtain ⟨h1, h2⟩ := hnw hw;rw [hout hw, (mv.same β (by rw [hvl]; omega) h2).2]
 have hext : ∀ {β}, ¬ (r.len i ≤ β ∧ β < r.len (i + 1)) → (μ2 β).v = (μ β).v ∧ ∃ ext, (μ2 β).hist = (μ β).hist ++ ext := by
  intro β hb
  cases hw : r.wrB i β with
  | true =>
   rw [hw2 hw]
   rcases hwr hw with h1 | h1
   ·exact mv.mu β (live_lt (h.tlive i hi β h1))
   ·exact absurd h1 hb
  | false => rw [hout hw]; exact ⟨rfl, [], by simp⟩
 have hheap : ∀ {β}, r.wrB i β = true → (r.A (r.lvB (addL L i) β)).heap[β]? = (r.S' i).heap[β]? := by intro β hb;rw [h.lvB_add hD hi hni, if_pos hb, h.ablk i hi, if_pos hb]
 have hheap' : ∀ {β}, r.wrB i β = false → r.lvB (addL L i) β = r.lvB L β := by intro β hb;rw [h.lvB_add hD hi hni, if_neg (by simp [hb])]
 have hcase : ∀ {β}, r.liveL (addL L i) β → (r.liveL L β ∧ μ2 β = μ β ∧ r.wrB i β = false) ∨ (r.wrB i β = true ∧ live (r.S' i).heap β ∧ μ2 β = μ' β ∧ ∀ b, (μ2 β).own b → w.heap.size ≤ b ∨ ∃ γ, γ ∈ r.tch i ∧ (μ γ).own b) := by
  intro β hl
  cases hb : r.wrB i β with
  | true =>
   have hlS : live (r.S' i).heap β := by obtain ⟨sb, hs, hd⟩ := hl;rw [hheap hb] at hs;exact ⟨sb, hs, hd⟩
   refine .inr ⟨rfl, hlS, hw2 hb, fun b hbb => ?_⟩
   rw [hw2 hb] at hbb;refine mv.own β hlS ?_ b hbb
   rcases hwr hb with h1 | h1
   ·exact .inl h1
   ·exact .inr (by rw [hvl]; exact h1.1)
  | false =>
   refine .inl ⟨?_, hout hb, rfl⟩;obtain ⟨sb, hs, hd⟩ := hl;rw [hheap' hb] at hs;exact ⟨sb, hs, hd⟩
 have hblk : ∀ b, r.FL X L μ w b → w'.heap[b]? = w.heap[b]? := fun b hb => mv.blk b hb.1.1 fun β ht => hb.2 β (hlv β (h.tlive i hi β ht))
 have hst : Stays (r.FL X L μ w) (r.FL X (addL L i) μ2 w') w w' := by
  refine ⟨fun b hb => ⟨⟨Nat.lt_of_lt_of_le hb.1.1 mv.size, hb.1.2⟩, fun β hl he => ?_⟩, hblk⟩
  rcases hcase hl with ⟨h1, h2, _⟩ | ⟨_, _, _, h3⟩
  ·rw [h2] at he; exact hb.2 β h1 he
  ·rcases h3 b he with h4 | ⟨γ, h4, h5⟩
   ·have := hb.1.1
    omega
   ·exact hb.2 γ (hlv γ (h.tlive i hi γ h4)) h5
 have hF2 : ∀ b, Fz (exV r X L μ i) (r.S' i).heap μ' w' b → r.FL X (addL L i) μ2 w' b := by
  rintro b ⟨⟨h1, h2⟩, h3⟩
  refine ⟨⟨h1, fun hx => h2 (.inl hx)⟩, fun β hl he => ?_⟩
  cases hb : r.wrB i β with
  | true =>
   have hlS : live (r.S' i).heap β := by obtain ⟨sb, hs, hd⟩ := hl;rw [hheap hb] at hs;exact ⟨sb, hs, hd⟩
   rw [hw2 hb] at he;exact h3 β hlS he
  | false =>
   have hlL : r.liveL L β := by obtain ⟨sb, hs, hd⟩ := hl;rw [hheap' hb] at hs;exact ⟨sb, hs, hd⟩
   rw [hout hb] at he
   by_cases hv : live (r.V i).heap β
   ·have hlt : β < (r.V i).heap.length := live_lt hv
    have hlS : live (r.S' i).heap β := by obtain ⟨sb, hs, hd⟩ := hv;exact ⟨sb, by rw [(mv.same β hlt (hnw hb).2).1]; exact hs, hd⟩
    refine h3 β hlS ?_;rw [(mv.same β hlt (hnw hb).2).2];exact he
   ·exact h2 (.inr ⟨β, hlL, hv, he⟩)
 have hgN : Grows (Fz (exV r X L μ i) (r.S' i).heap μ' w') (r.FL X (addL L i) μ2 w') (r.S' i).heap.length (r.len (i + 1)) μ' μ2 (ρN.take (r.n (i + 1))) (ρN.take (r.n (i + 1))) w' w' :=
  ⟨⟨hF2, fun _ _ => rfl⟩, ⟨[], by simp⟩, by rw [hal]; exact Nat.le_refl _, fun β hb => by rw [hin (by rw [hal]; exact hb)]; exact ⟨rfl, [], by simp⟩⟩
 have hp : ∀ {j}, L j = true → j < r.N → MuUp (r.p j) (r.len (j + 1)) μ μ2 := by
  intro j hL hj β hpj hlt;refine hext fun hrange => ?_
  have hne : j ≠ i := fun e => by rw [e, hni] at hL; cases hL
  have hji : i < j := by
   rcases Nat.lt_or_ge i j with h1 | h1
   ·exact h1
   ·have := h.lenMono (i := j + 1) (j := i) (by omega) (Nat.le_of_lt hi)
    omega
  have hb1 : r.bef j i = false := by
   cases hb : r.bef j i with
   | false => rfl
   | true => rw [hD.later hni hj hb] at hL; cases hL
  have hb2 : r.bef i j = false := by
   cases hb : r.bef i j with
   | false => rfl
   | true => have := h.befLt i hi j hb; omega
  have := List.all_eq_true.1 hpj i (List.mem_range.2 hi);have hu : r.un j i = true := by simp [Rg.un, hb1, hb2]; omega
  simp [hu, hrange.1, hrange.2] at this
 have hgO : ∀ (l : Nat), Grows (r.FL X L μ w) (r.FL X (addL L i) μ2 w') (r.len l) (r.len l) μ2 μ2 (ρN.take (r.n l)) (ρN.take (r.n l)) w w' := fun l => ⟨hst, ⟨[], by simp⟩, Nat.le_refl _, fun _ _ => ⟨rfl, [], by simp⟩⟩
 refine ⟨μ2, hR'.keeps, ?_, hR'.defers, fun k s hs => ?_, fun β sb hs => ?_, fun b hb => Nat.lt_of_lt_of_le (hR.ex b hb) mv.size, fun β γ h1 h2 hne b hb => ?_, fun β h1 b hb => ?_, fun β v hv => ⟨(hR.anc β v hv).1, (hext (by have := (hR.anc β v hv).1; have := h.lenMono (Nat.zero_le i) (Nat.le_of_lt hi); omega)).1.trans (hR.anc β v hv).2⟩⟩
 ·obtain ⟨u, rfl⟩ := hf.act
  rw [← hR.size];unfold Act.put
  cases r.dst i <;> simp
 ·rw [h.lvS_add hD hi hni] at hs ⊢
  split at hs
  ·rename_i hd
   rw [if_pos hd];rw [h.aslot i hi, if_pos hd] at hs;exact (hR'.slots k s hs).mono hgN
  ·rename_i hd
   rw [if_neg hd];have hold := hR.slots k s hs;obtain ⟨u, rfl⟩ := hf.act;rw [tmps_put, if_neg (fun e => hd e.1)]
   have h2 : SVR w (r.FL X L μ w) (r.len (r.lvS L k)) μ2 (ρN.take (r.n (r.lvS L k))) s (a.tmps.getD k Go.undef) := by
    rcases lastLv_spec (f := fun i => L i && r.dst i == some k) (N := r.N) with h0 | ⟨j, hj, he, hfj⟩
    ·have h0' : r.lvS L k = 0 := h0
     rw [h0'] at hold ⊢;refine hold.mono ⟨⟨fun _ h => h, fun _ _ => rfl⟩, ⟨[], by simp⟩, Nat.le_refl _, fun β hb => hext ?_⟩
     have := h.lenMono (Nat.zero_le i) (Nat.le_of_lt hi);omega
    ·have he' : r.lvS L k = j + 1 := he
     simp only [Bool.and_eq_true, beq_iff_eq] at hfj;rw [he'] at hold hs ⊢;rw [h.aslot j hj, if_pos hfj.2] at hs;exact refsSV_ok (hp hfj.1 hj) (h.refS j hj k s hfj.2 hs) hold
   exact h2.mono (hgO _)
 ·rw [h.lvB_add hD hi hni] at hs ⊢
  split at hs
  ·rename_i hb
   rw [if_pos hb];rw [h.ablk i hi, if_pos hb] at hs;rw [hw2 hb];exact (hR'.blocks β sb hs).grow hgN (Nat.le_refl _) (fun _ _ => rfl)
  ·rename_i hb
   have hb' : r.wrB i β = false := by simpa using hb
   rw [if_neg hb, hout hb']
   by_cases hd : sb = .dead
   ·subst hd; trivial
   ·have hold := hR.blocks β sb hs
    have hlL : r.liveL L β := ⟨sb, hs, hd⟩;have h2 : BlkR (fun b => w0.heap.size ≤ b ∨ M b) w (r.FL X L μ w) (r.len (r.lvB L β)) μ2 (ρN.take (r.n (r.lvB L β))) sb (μ β) := by
     rcases lastLv_spec (f := fun i => L i && r.wrB i β) (N := r.N) with h0 | ⟨j, hj, he, hfj⟩
     ·have h0' : r.lvB L β = 0 := h0
      rw [h0'] at hold ⊢;refine hold.grow ⟨⟨fun _ h => h, fun _ _ => rfl⟩, ⟨[], by simp⟩, Nat.le_refl _, fun γ hγ => hext ?_⟩ (Nat.le_refl _) (fun _ _ => rfl)
      have := h.lenMono (Nat.zero_le i) (Nat.le_of_lt hi);omega
     ·have he' : r.lvB L β = j + 1 := he
      simp only [Bool.and_eq_true] at hfj;rw [he'] at hold hs ⊢;rw [h.ablk j hj, if_pos hfj.2] at hs;exact refsSB_ok (hp hfj.1 hj) (h.refB j hj β sb hfj.2 hs) hold
    refine h2.grow (hgO _) mv.size fun b hbb => mv.blk b (hR.own_lt hlL hbb) fun γ ht he => ?_
    exact hR.inj β γ hlL (hlv γ (h.tlive i hi γ ht)) (fun e => (hnw hb').2 (by rw [e]; exact ht)) b hbb he
 ·rcases hcase h1 with ⟨l1, e1, n1⟩ | ⟨n1, l1, e1, f1⟩
  ·rcases hcase h2 with ⟨l2, e2, n2⟩ | ⟨n2, l2, e2, f2⟩
   ·rw [e1] at hb; rw [e2]; exact hR.inj β γ l1 l2 hne b hb
   ·intro he
    rw [e1] at hb
    rcases f2 b he with h4 | ⟨δ, h4, h5⟩
    ·have := hR.own_lt l1 hb
     omega
    ·exact hR.inj β δ l1 (hlv δ (h.tlive i hi δ h4)) (fun e => (hnw n1).2 (by rw [e]; exact h4)) b hb h5
  ·rcases hcase h2 with ⟨l2, e2, n2⟩ | ⟨n2, l2, e2, f2⟩
   ·intro he
    rw [e2] at he
    rcases f1 b hb with h4 | ⟨δ, h4, h5⟩
    ·have := hR.own_lt l2 he
     omega
    ·exact hR.inj γ δ l2 (hlv δ (h.tlive i hi δ h4)) (fun e => (hnw n2).2 (by rw [e]; exact h4)) b he h5
   ·rw [e1] at hb; rw [e2]; exact hR'.inj β γ l1 l2 hne b hb
 ·rcases hcase h1 with ⟨l1, e1, _⟩ | ⟨_, l1, e1, _⟩
  ·rw [e1] at hb; exact hR.exo β l1 b hb
  ·rw [e1] at hb; exact fun hx => hR'.exo β l1 b hb (.inl hx)
end
end Vs

namespace Vs
open Go Go.RowKit
def miss (L : Nat → Bool) : Nat → Nat
 | 0 => 0
 | i + 1 => (if L i then 0 else 1) + miss L i
theorem miss_zero {L : Nat → Bool} : ∀ {N : Nat}, miss L N = 0 → ∀ i, i < N → L i = true
 | 0, _, i, hi => absurd hi (Nat.not_lt_zero i)
 | N + 1, h, i, hi => by
  unfold miss at h
  rcases Nat.lt_or_eq_of_le (Nat.le_of_lt_succ hi) with hlt | rfl
  ·exact miss_zero (by omega) i hlt
  ·cases hL : L i with
   | true => rfl
   | false => rw [hL] at h; simp at h
theorem miss_congr {L L' : Nat → Bool} : ∀ {N : Nat}, (∀ j, j < N → L j = L' j) → miss L N = miss L' N
 | 0, _ => rfl
 | N + 1, h => by unfold miss; rw [h N (Nat.lt_succ_self N), miss_congr fun j hj => h j (Nat.lt_succ_of_lt hj)]
theorem miss_add {L : Nat → Bool} {i : Nat} (hni : L i = false) : ∀ {N : Nat}, i < N → miss (addL L i) N + 1 = miss L N
 | 0, hi => absurd hi (Nat.not_lt_zero i)
 | N + 1, hi => by
  unfold miss
  rcases Nat.lt_or_eq_of_le (Nat.le_of_lt_succ hi) with hlt | rfl
  ·have := miss_add hni hlt
   rw [addL_ne (by omega : N ≠ i)]
   omega
  ·rw [addL_self, hni]
   rw [miss_congr (L := addL L i) (L' := L) fun j hj => addL_ne (by omega)]
   simp;omega
theorem miss_le (L : Nat → Bool) : ∀ N, miss L N ≤ N
 | 0 => Nat.le_refl _
 | N + 1 => by unfold miss;have := miss_le L N;split <;> omega
section
variable {r : Rg} {E : Env} {ops : Array Oper} {X : Nat → Prop} {M : Hand} {w0 w : World} {L : Nat → Bool} {μ : Mu} {ρN : List D} {a : Act} {G : Nat → List D → Option (List D)}
theorem RL_all (h : r.Ok E ops) (hR : RL r X M w0 L μ ρN a w) (hN : ρN.length = r.n r.N) (hL : ∀ i, i < r.N → L i = true) : R X M w0 (r.A r.N) μ ρN a w := by
 have hS : ∀ k, r.lvS L k ≤ r.N ∧ (r.A (r.lvS L k)).slots[k]? = (r.A r.N).slots[k]? := by
  intro k;refine ⟨lastLv_le _ _, lastLv_val (v := fun i => (r.A i).slots[k]?) fun j hj hf => ?_⟩
  rw [hL j hj, Bool.true_and] at hf;show (r.A (j + 1)).slots[k]? = _;rw [h.aslot j hj, if_neg (by simpa using hf)]
 have hB : ∀ β, r.lvB L β ≤ r.N ∧ (r.A (r.lvB L β)).heap[β]? = (r.A r.N).heap[β]? := by
  intro β;refine ⟨lastLv_le _ _, lastLv_val (v := fun i => (r.A i).heap[β]?) fun j hj hf => ?_⟩
  rw [hL j hj, Bool.true_and] at hf;show (r.A (j + 1)).heap[β]? = _;rw [h.ablk j hj, if_neg (by simp [hf])]
 have hlv : ∀ β, r.liveL L β ↔ live (r.A r.N).heap β := by intro β;unfold Rg.liveL live;rw [(hB β).2]
 have hF : r.FL X L μ w = Fz X (r.A r.N).heap μ w := by
  funext b
  simp only [Rg.FL, Fz, hlv]
 have hgr : ∀ {l : Nat}, l ≤ r.N → Grows (r.FL X L μ w) (Fz X (r.A r.N).heap μ w) (r.len l) (r.A r.N).heap.length μ μ (ρN.take (r.n l)) ρN w w := by intro l hl;rw [hF];exact ⟨⟨fun _ h => h, fun _ _ => rfl⟩, ⟨ρN.drop (r.n l), (List.take_append_drop _ _).symm⟩, h.lenMono hl (Nat.le_refl _), fun _ _ => ⟨rfl, [], by simp⟩⟩
 refine ⟨hR.keeps, hN, ?_, hR.defers, fun k s hs => ?_, fun β sb hs => ?_, hR.ex, fun β γ h1 h2 => hR.inj β γ ((hlv β).2 h1) ((hlv γ).2 h2), fun β h1 => hR.exo β ((hlv β).2 h1), fun β v hv => ⟨Nat.lt_of_lt_of_le (hR.anc β v hv).1 (h.lenMono (Nat.zero_le _) (Nat.le_refl _)), (hR.anc β v hv).2⟩⟩
 ·rw [hR.size, h.slenMono r.N (Nat.le_refl _)]
 ·exact (hR.slots k s (by rw [(hS k).2]; exact hs)).mono (hgr (hS k).1)
 ·exact (hR.blocks β sb (by rw [(hB β).2]; exact hs)).grow (hgr (hB β).1) (Nat.le_refl _) (fun _ _ => rfl)
theorem RL_none (hR : R X M w0 (r.A 0) μ (ρN.take (r.n 0)) a w) (hL : ∀ i, i < r.N → L i = false) : RL r X M w0 L μ ρN a w := by
 have h0 : ∀ (f : Nat → Bool), lastLv (fun i => L i && f i) r.N = 0 := by
  intro f
  rcases lastLv_spec (f := fun i => L i && f i) (N := r.N) with h | ⟨j, hj, _, hf⟩
  ·exact h
  ·rw [hL j hj] at hf; cases hf
 have hS : ∀ k, r.lvS L k = 0 := fun k => h0 _
 have hB : ∀ β, r.lvB L β = 0 := fun β => h0 _
 have hF : r.FL X L μ w = Fz X (r.A 0).heap μ w := by
  funext b
  simp only [Rg.FL, Fz, Rg.liveL, hB]
 refine ⟨hR.keeps, hR.size, hR.defers, fun k s hs => ?_, fun β sb hs => ?_, hR.ex, fun β γ h1 h2 => ?_, fun β h1 => ?_, hR.anc⟩
 ·rw [hS k] at hs ⊢; rw [hF]; exact hR.slots k s hs
 ·rw [hB β] at hs ⊢; rw [hF]; exact hR.blocks β sb hs
 ·unfold Rg.liveL at h1 h2
  rw [hB] at h1 h2;exact hR.inj β γ h1 h2
 ·unfold Rg.liveL at h1
  rw [hB] at h1;exact hR.exo β h1
theorem any_ok (hE : EnvOk E G) (h : r.Ok E ops) (hC : Chain G r ρN) {Q : Exit → Act → World → Prop} (hQ : ∀ μ a w, R X M w0 (r.A r.N) μ ρN a w → Q .normal a w) :
  ∀ (fuel : Nat) (listed : Array Bool) (μ : Mu) (a : Act) (w : World), listed.size = r.N → Down r (fun i => listed.getD i false) → RL r X M w0 (fun i => listed.getD i false) μ ρN a w → miss (fun i => listed.getD i false) r.N ≤ fuel →
   wpAny E.P .any ops Q fuel listed a w := by
 have hready : ∀ (listed : Array Bool) i, listed.size = r.N → i ∈ Region.ready .any ops listed → i < r.N ∧ listed.getD i false = false ∧ ∀ o e, ops[i]? = some o → e ∈ o.after → Region.binds .any e = true → listed.getD e.on false = true := by
  intro listed i hs hi;simp only [Region.ready, List.mem_filter, List.mem_range, Bool.and_eq_true, Bool.not_eq_true'] at hi;obtain ⟨h1, h2, h3⟩ := hi;have hiN : i < r.N := by rw [← h.size]; exact h1
  refine ⟨hiN, ?_, fun o e ho he hb => ?_⟩
  ·have : i < listed.size := by rw [hs]; exact hiN
   simp [Array.getD, this] at h2 ⊢;exact h2
  ·rw [ho] at h3
   simp only [Option.map_some, Option.getD_some] at h3;rw [Array.all_eq_true_iff_forall_mem] at h3;have := h3 e he;simpa [hb] using this
 have hnil : ∀ (listed : Array Bool), listed.size = r.N → Region.ready .any ops listed = [] → ∀ i, i < r.N → listed.getD i false = true := by
  intro listed hs hr i
  induction i using Nat.strongRecOn with
  | ind i ih =>
   intro hi
   cases hl : listed.getD i false with
   | true => rfl
   | false =>
    have hsz : i < ops.size := by rw [h.size]; exact hi
    have : i ∈ Region.ready .any ops listed := by
     simp only [Region.ready, List.mem_filter, List.mem_range, Bool.and_eq_true, Bool.not_eq_true'];refine ⟨hsz, ?_, ?_⟩
     ·have : i < listed.size := by rw [hs]; exact hi
      simp [Array.getD, this] at hl ⊢;exact hl
     ·rw [show ops[i]? = some ops[i] by simp [hsz]]
      simp only [Option.map_some, Option.getD_some];rw [Array.all_eq_true_iff_forall_mem];intro e he
      cases hb : Region.binds .any e with
      | false => simp
      | true =>
       have hlt := h.edgeLt i ops[i] e (by simp [hsz]) he hb
       simp [ih e.on hlt (Nat.lt_trans hlt hi)]
    rw [hr] at this
    cases this
 intro fuel
 induction fuel with
 | zero =>
  intro listed μ a w hs hD hR hm;have hall := miss_zero (Nat.le_zero.1 hm);refine ⟨?_, hQ μ a w (RL_all h hR hC.1 hall)⟩
  cases hrd : Region.ready .any ops listed with
  | nil => rfl
  | cons i is =>
   obtain ⟨h1, h2, _⟩ := hready listed i hs (by rw [hrd]; exact List.mem_cons_self)
   rw [hall i h1] at h2
   cases h2
 | succ fuel ih =>
  intro listed μ a w hs hD hR hm;refine ⟨fun hr => hQ μ a w (RL_all h hR hC.1 (hnil listed hs hr)), fun i hi => ?_⟩
  obtain ⟨hiN, hni, hed⟩ := hready listed i hs hi;have hsz : i < ops.size := by rw [h.size]; exact hiN
  have ho : ops[i]? = some ops[i] := by simp [hsz]
  have hrd : ∀ j, r.bef i j = true → listed.getD j false = true := by
   intro j hj;obtain ⟨e, he, hb, hor⟩ := h.befE i ops[i] j ho hj;have he' := hed ops[i] e ho he hb;have hlt := h.edgeLt i ops[i] e ho he hb
   rcases hor with rfl | h2
   ·exact he'
   ·exact hD.bef e.on j (Nat.lt_trans hlt hiN) he' h2
  obtain ⟨hsop, hdst⟩ := h.op i ops[i] ho;obtain ⟨hlv, hF, hRv⟩ := view_ok hC h hD hR hC.1 hiN hni hrd;obtain ⟨hw, hgg, hno, hyes⟩ := sop_ok hE hsop hRv;obtain ⟨hc1, hc2⟩ := hC.2 i hiN;have hLeq : (fun j => (listed.setIfInBounds i true).getD j false) = addL (fun j => listed.getD j false) i := by
   funext j
   by_cases he : j = i
   ·subst he
    have : j < listed.size := by rw [hs]; exact hiN
    simp [addL, Array.getD, this]
   ·simp only [addL]
    have hne : i ≠ j := fun e => he e.symm
    simp [Array.getD_eq_getD_getElem?, Array.getElem?_setIfInBounds_ne hne, he]
  have hgo : ∀ μ' a' w', R (exV r X (fun j => listed.getD j false) μ i) M w0 (r.S' i) μ' (ρN.take (r.n (i + 1))) a' w' → Fr (r.V i) μ w a (r.dst i) (r.tch i) (r.S' i) μ' a' w' →
    wpAny E.P .any ops Q fuel (listed.setIfInBounds i true) a' w' := by
   intro μ' a' w' hR' hf;obtain ⟨μ2, hR2⟩ := step_RL hC h hD hR hC.1 hiN hni hrd hR' hf;refine ih _ μ2 a' w' (by simp [hs]) ?_ ?_ ?_
   ·rw [hLeq]; exact hD.add hrd
   ·rw [hLeq]; exact hR2
   ·rw [hLeq]
    have := miss_add (L := fun j => listed.getD j false) (i := i) hni hiN
    omega
  unfold wpOp;simp only [ho];rw [hw]
  cases hok : (r.g i).ok (ρN.take (r.n i)) with
  | true =>
   simp only [if_true];refine .inl (hyes hok _ (hc1 hok) _ _ fun μ' a' w' hR' hf => ?_)
   rw [hdst] at hf;exact hgo μ' a' w' hR' hf
  | false =>
   simp only [Bool.false_eq_true, if_false];obtain ⟨hh, ht, hR'⟩ := hno hok;rw [← hc2 hok] at hR';rw [hdst] at hR' ⊢;exact hgo μ _ w hR' ⟨⟨_, rfl⟩, by rw [hh, ht]; exact Move.none rfl rfl rfl rfl, Nat.le_refl _⟩
theorem region_any_ok (hE : EnvOk E G) (h : r.Ok E ops) (hm : E.P.follows .mixedOrders = true) (hC : Chain G r ρN) (hR : R X M w0 (r.A 0) μ (ρN.take (r.n 0)) a w) {Q : Exit → Act → World → Prop} {id : Nat}
  (hQ : ∀ μ a w, R X M w0 (r.A r.N) μ ρN a w → Q .normal a w) : (Code.region id ops true).wp E.P Q a w := by
 refine wp_region_any hm ?_
 have hL : ∀ i, (Array.replicate ops.size false).getD i false = false := by intro i;simp only [Array.getD_eq_getD_getElem?];rw [Array.getElem?_replicate];split <;> rfl
 refine any_ok hE h hC hQ _ _ μ a _ (by simp [h.size]) ⟨fun i j _ hi => by rw [hL i] at hi; cases hi⟩ (RL_none (R_quiet hR (Quiet.drew w)) fun i _ => hL i) ?_
 rw [h.size]
 exact miss_le _ _
end
end Vs

namespace Vs
open Go Go.RowKit
def forceN {α : Type} (n : Nat) (f : Nat → α) : α := match n with | 0 => f 0 | k + 1 => f (k + 1)
def forceL {α β : Type} : List α → (List α → β) → β
 | [], f => f []
 | x :: xs, f => forceL xs fun ys => f (x :: ys)
def forceSS {α : Type} (S : SS) (f : SS → α) : α := forceN S.n fun n => forceL S.slots fun sl => forceL S.heap fun h => f { n := n, slots := sl, heap := h }
theorem forceN_eq {α : Type} (n : Nat) (f : Nat → α) : forceN n f = f n := by cases n <;> rfl
theorem forceL_eq {α β : Type} : ∀ (l : List α) (f : List α → β), forceL l f = f l
 | [], _ => rfl
 | x :: xs, f => by rw [forceL, forceL_eq]
theorem forceSS_eq {α : Type} (S : SS) (f : SS → α) : forceSS S f = f S := by rw [forceSS, forceN_eq, forceL_eq, forceL_eq]
structure Rec where
 A : SS
 V : SS
 S' : SS
 g : Guard
 eff : Eff
structure Hint where
 dsts : List (Option Nat)
 tchs : List (List Nat)
 lens : List Nat
 masks : List Nat
 soft : List Bool
namespace Hint
variable (H : Hint)
def N : Nat := H.dsts.length
def dst (i : Nat) : Option Nat := (H.dsts[i]?).join
def tch (i : Nat) : List Nat := (H.tchs[i]?).getD []
def len (i : Nat) : Nat := (H.lens[i]?).getD 0
def bef (i j : Nat) : Bool := decide (j < i) && ((H.masks[i]?).getD 0).testBit j
def un (i j : Nat) : Bool := j != i && !H.bef i j && !H.bef j i
def wrB (i β : Nat) : Bool := (H.tch i).contains β || (decide (H.len i ≤ β) && decide (β < H.len (i + 1)))
def p (i β : Nat) : Bool := (List.range H.N).all fun j => !(H.un i j && decide (H.len j ≤ β) && decide (β < H.len (j + 1)))
def badS (i : Nat) : List Nat := (List.range H.N).filterMap fun j => if H.un i j then H.dst j else none
end Hint
def maskS (bad : List Nat) (l : List SV) : List SV := l.zipIdx.map fun (s, k) => if bad.contains k then SV.undef else s
def softV (H : Hint) (n i β : Nat) (sb : SB) : SB :=
 match sb with
 | .map m _ d none =>
  match m.v, (List.range H.N).filter (fun j => H.un i j && H.wrB j β) with
  | .b _, [j] => if i < j ∧ (H.soft[j]?).getD false = true ∧ atomIn n d = true then .mapz m d else .dead
  | _, _ => .dead
 | _ => .dead
def maskB (wr : Nat → Bool) (f : Nat → SB → SB) (l : List SB) : List SB := l.zipIdx.map fun (sb, β) => if wr β then f β sb else sb
def viewOf (H : Hint) (A : SS) (i : Nat) : SS :=
 {A with slots := maskS (H.badS i) A.slots, heap := maskB (fun β => (List.range H.N).any fun j => H.un i j && H.wrB j β) (softV H A.n i) A.heap }
def overB (S' : SS) (tch : List Nat) (h : List SB) : List SB := tch.foldl (fun h β => h.set β (S'.heap.getD β .dead)) h
def nextOf (dst : Option Nat) (tch : List Nat) (A S' : SS) : SS :=
 {n := S'.n, slots := (match dst with | some d => A.slots.set d (S'.slots.getD d SV.undef) | none => A.slots),
  heap := overB S' tch A.heap ++ S'.heap.drop A.heap.length }
def stepB (H : Hint) (i : Nat) (o : Oper) (A V S' : SS) (eff : Eff) (tch : List Nat) : Bool :=
 decide (o.dst = H.dst i) && decide (tch = H.tch i) && (o.after.toList.all fun e => !Region.binds .any e || decide (e.on < i)) &&
 ((List.range i).all fun j => !H.bef i j || o.after.toList.any fun e => Region.binds .any e && (j == e.on || H.bef e.on j)) &&
 (S'.n == A.n + effLen eff) && (S'.slots.length == A.slots.length) && (match o.dst with | some d => decide (d < A.slots.length) | none => true) &&
 (A.heap.length == H.len i) && decide (A.heap.length ≤ S'.heap.length) && (S'.heap.length == H.len (i + 1)) &&
 ((H.tch i).all fun β => liveB V.heap β && (match S'.heap[β]? with | some sb => refsSB (H.p i) sb | none => true)) &&
 ((List.range i).all fun j => H.bef i j || ((H.dst i == none || H.dst i != H.dst j) && ((H.tch i).all fun β => !H.wrB j β))) &&
 (match o.dst with | some d => (match S'.slots[d]? with | some s => refsSV (H.p i) s | none => true) | none => true) &&
 (S'.heap.drop A.heap.length).all (refsSB (H.p i))
def gdB (g : Guard) (n : Nat) : Bool := match g with | some (.v k, _) => decide (k < n) | some (.c _, _) => false | none => true
def build (E : Env) (ops : List Oper) (H : Hint) : List Oper → Nat → SS → Res (List Rec × SS)
 | [], _, A => .ok ([], A)
 | o :: os, i, A => do
  forceSS (viewOf H A i) fun V => do
  let (S', g, eff, tch) ← sop E ops V o
  if stepB H i o A V S' eff tch = true ∧ gdB g A.n = true then do
   let (rs, Z) ← forceSS (nextOf o.dst (H.tch i) A S') fun A' => build E ops H os (i + 1) A'
   .ok ({ A, V, S', g, eff } :: rs, Z)
  else .error "a region whose order is open"
def rgOf (H : Hint) (rs : List Rec) (Z : SS) : Rg where
 N := rs.length
 A i := match rs[i]? with | some r => r.A | none => Z
 V i := match rs[i]? with | some r => r.V | none => Z
 S' i := match rs[i]? with | some r => r.S' | none => Z
 g i := match rs[i]? with | some r => r.g | none => none
 eff i := match rs[i]? with | some r => r.eff | none => .prims []
 dst := H.dst
 tch := H.tch
 bef := H.bef
theorem build_ok {E : Env} {ops : List Oper} {H : Hint} : ∀ {os : List Oper} {i : Nat} {A Z : SS} {rs : List Rec}, build E ops H os i A = .ok (rs, Z) →
  rs.length = os.length ∧ (match rs[0]? with | some r => r.A | none => Z) = A ∧ ∀ (k : Nat) o, os[k]? = some o → ∃ r, rs[k]? = some r ∧ r.V = viewOf H r.A (i + k) ∧ sop E ops r.V o = .ok (r.S', r.g, r.eff, H.tch (i + k)) ∧
   (stepB H (i + k) o r.A r.V r.S' r.eff (H.tch (i + k)) = true ∧ gdB r.g r.A.n = true) ∧ (match rs[k + 1]? with | some r' => r'.A | none => Z) = nextOf o.dst (H.tch (i + k)) r.A r.S'
 | [], i, A, Z, rs, h => by simp only [build, Except.ok.injEq, Prod.mk.injEq] at h;obtain ⟨rfl, rfl⟩ := h;exact ⟨rfl, rfl, by simp⟩
 | o :: os, i, A, Z, rs, h => by
  simp only [build, forceSS_eq] at h;obtain ⟨⟨S', g, eff, tch⟩, h1, h2⟩ := bind_ok h
  dsimp only at h2
  split at h2
  ·rename_i hs
   have htc : tch = H.tch i := by have := hs.1;unfold stepB at this;simp only [Bool.and_eq_true] at this;simpa using this.1.1.1.1.1.1.1.1.1.1.1.1.2
   subst htc;obtain ⟨⟨rs', Z'⟩, h3, h4⟩ := bind_ok h2;simp only [Except.ok.injEq, Prod.mk.injEq] at h4;obtain ⟨rfl, rfl⟩ := h4;obtain ⟨i1, i2, i3⟩ := build_ok h3;refine ⟨by simp [i1], rfl, fun k o' hk => ?_⟩
   cases k with
   | zero =>
    simp only [List.getElem?_cons_zero, Option.some.injEq] at hk;subst hk;exact ⟨_, rfl, rfl, h1, hs, by simpa using i2⟩
   | succ k =>
    simp only [List.getElem?_cons_succ] at hk;obtain ⟨r, r1, r2, r3, r4, r5⟩ := i3 k o' hk;refine ⟨r, by simpa using r1, ?_, ?_, ?_, ?_⟩
    ·rw [r2, show i + 1 + k = i + (k + 1) from by omega]
    ·rw [show i + (k + 1) = i + 1 + k from by omega]; exact r3
    ·rw [show i + (k + 1) = i + 1 + k from by omega]; exact r4
    ·rw [show i + (k + 1) = i + 1 + k from by omega]; simpa using r5
  ·cases h2
theorem maskS_length (bad : List Nat) (l : List SV) : (maskS bad l).length = l.length := by simp [maskS]
theorem maskS_get (bad : List Nat) (l : List SV) (k : Nat) (s : SV) (h : (maskS bad l)[k]? = some s) : s = SV.undef ∨ (l[k]? = some s ∧ k ∉ bad) := by
 unfold maskS at h
 rw [List.getElem?_map, List.getElem?_zipIdx] at h
 cases hl : l[k]? with
 | none => rw [hl] at h; cases h
 | some x =>
  rw [hl] at h;simp only [Option.map_some, Nat.zero_add, Option.some.injEq] at h;split at h
  ·exact .inl h.symm
  ·rename_i hb
   subst h;exact .inr ⟨rfl, fun hm => hb (by simpa using hm)⟩
theorem softV_or (H : Hint) (n i β : Nat) (sb : SB) : softV H n i β sb = .dead ∨ ∃ m d, softV H n i β sb = .mapz m d := by
 unfold softV
 split
 ·split
  ·split
   ·exact .inr ⟨_, _, rfl⟩
   ·exact .inl rfl
  ·exact .inl rfl
 ·exact .inl rfl
theorem maskB_get {wr : Nat → Bool} {f : Nat → SB → SB} {l : List SB} {β : Nat} {sb : SB} (h : (maskB wr f l)[β]? = some sb) : (wr β = true ∧ ∃ sb0, sb = f β sb0) ∨ (l[β]? = some sb ∧ wr β = false) := by
 unfold maskB at h
 rw [List.getElem?_map, List.getElem?_zipIdx] at h
 simp only [Option.map_map, Option.map_eq_some_iff, Function.comp] at h
 obtain ⟨x, hx, he⟩ := h
 simp only [Nat.zero_add] at he
 split at he
 ·rename_i hw
  exact .inl ⟨hw, x, he.symm⟩
 ·rename_i hw
  subst he;exact .inr ⟨hx, by simpa using hw⟩
def zeroMatch (m : MPK) (z : D) : Bool :=
 match m.v with
 | .b b => (match zeroB b, z with | some (.int a), .int c => a == c | some (.bool a), .bool c => a == c | _, _ => false)
 | .s _ _ => false
def softAtB (r : Rg) (i β : Nat) (m : MPK) (d : Atom) : Bool :=
 match (List.range r.N).filter (fun j => r.un i j && r.wrB j β) with
 | [j] => decide (i < j) && (r.g j).isNone && (match (r.A i).heap[β]? with | some (.map m' _ d0 none) => decide (m' = m) && Atom.alike d d0 | _ => false) && atomIn (r.n i) d &&
   (match r.eff j with | .prims ((.mkagg, _) :: (.ment, [x, .v q, .c z]) :: _) => decide (q = r.n j) && Atom.alike d x && zeroMatch m z | _ => false) &&
   (match (r.A (j + 1)).heap[β]? with | some (.map m' _ (.v p) none) => decide (m' = m) && decide (p = r.n j + 1) | _ => false)
 | _ => false
def softB (r : Rg) : Bool := (List.range r.N).all fun i => (r.V i).heap.zipIdx.all fun x => match x.1 with | .mapz m d => softAtB r i x.2 m d | _ => true
theorem zeroMatch_ok {m : MPK} {z : D} (h : zeroMatch m z = true) : ∃ b, m.v = .b b ∧ zeroB b = some z := by
 unfold zeroMatch at h
 split at h
 ·rename_i b hb
  refine ⟨b, hb, ?_⟩;split at h
  ·rename_i hz
   simp only [beq_iff_eq] at h;rw [hz, h]
  ·rename_i hz
   simp only [beq_iff_eq] at h;rw [hz, h]
  ·cases h
 ·cases h
theorem softAtB_ok {r : Rg} {i β : Nat} {m : MPK} {d : Atom} (h : softAtB r i β m d = true) : ∃ j, r.SoftAt i β j m d := by
 unfold softAtB at h
 split at h
 case h_2 => cases h
 rename_i j hj
 simp only [Bool.and_eq_true, decide_eq_true_eq] at h
 obtain ⟨⟨⟨⟨⟨h1, h2⟩, h3⟩, h4⟩, h5⟩, h6⟩ := h
 have hm : j ∈ (List.range r.N).filter (fun j => r.un i j && r.wrB j β) := by rw [hj]; simp
 simp only [List.mem_filter, List.mem_range, Bool.and_eq_true] at hm
 refine ⟨j, h1, hm.1, hm.2.2, fun j' q1 q2 q3 => ?_, ?_, fun k hk => ?_, by simpa using h2, ?_, ?_⟩
 ·have : j' ∈ (List.range r.N).filter (fun j => r.un i j && r.wrB j β) := by simp [q1, q2, q3]
  rw [hj] at this;simpa using this
 ·split at h3
  ·rename_i m' ver d0 ha
   simp only [Bool.and_eq_true, decide_eq_true_eq] at h3;obtain ⟨rfl, h3⟩ := h3;exact ⟨ver, d0, ha, fun ρ => alike_get h3⟩
  ·cases h3
 ·subst hk
  simpa [atomIn] using h4
 ·split at h5
  ·rename_i ks x q z rest he
   simp only [Bool.and_eq_true, decide_eq_true_eq] at h5;obtain ⟨⟨rfl, h5⟩, h7⟩ := h5;obtain ⟨b, hb, hz⟩ := zeroMatch_ok h7;exact ⟨ks, x, z, rest, b, he, fun ρ => alike_get h5, hb, hz⟩
  ·cases h5
 ·split at h6
  ·rename_i m' ver p ha
   simp only [Bool.and_eq_true, decide_eq_true_eq] at h6;obtain ⟨rfl, rfl⟩ := h6;exact ⟨ver, ha⟩
  ·cases h6
theorem overB_length {S' : SS} : ∀ {tch : List Nat} {h : List SB}, (overB S' tch h).length = h.length
 | [], h => rfl
 | β :: t, h => by show (overB S' t (h.set β _)).length = _;rw [overB_length]; simp
theorem overB_get {S' : SS} {β : Nat} (hS : β < S'.heap.length) : ∀ {tch : List Nat} {h : List SB}, β < h.length → (β ∈ tch → (overB S' tch h)[β]? = S'.heap[β]?) ∧ (β ∉ tch → (overB S' tch h)[β]? = h[β]?) ∧ (h[β]? = S'.heap[β]? → (overB S' tch h)[β]? = S'.heap[β]?)
 | [], h, _ => ⟨fun h => by simp at h, fun _ => rfl, fun h => h⟩
 | γ :: t, h, hl => by
  have e : overB S' (γ :: t) h = overB S' t (h.set γ (S'.heap.getD γ .dead)) := rfl;obtain ⟨i1, i2, i3⟩ := overB_get (tch := t) (h := h.set γ (S'.heap.getD γ .dead)) hS (by simpa using hl)
  rw [e];have self : γ = β → (h.set γ (S'.heap.getD γ .dead))[β]? = S'.heap[β]? := fun e => by subst e;rw [List.getElem?_set_self hl];simp [List.getD_eq_getElem?_getD, hS]
  refine ⟨fun hm => ?_, fun hn => ?_, fun he => ?_⟩
  ·by_cases hc : γ = β
   ·exact i3 (self hc)
   ·rcases List.mem_cons.1 hm with h1 | h1
    ·exact absurd h1.symm hc
    ·exact i1 h1
  ·simp only [List.mem_cons, not_or] at hn
   rw [i2 hn.2, List.getElem?_set_ne (fun e => hn.1 e.symm)]
  ·by_cases hc : γ = β
   ·exact i3 (self hc)
   ·exact i3 (by rw [List.getElem?_set_ne hc]; exact he)
end Vs

namespace Vs
open Go Go.RowKit
section
variable {E : Env} {ops : Array Oper} {H : Hint} {rs : List Rec} {S0 Z : SS}
structure RecAt (E : Env) (ops : Array Oper) (H : Hint) (r : Rg) (i : Nat) (o : Oper) : Prop where
 view : r.V i = viewOf H (r.A i) i
 sop : sop E ops.toList (r.V i) o = .ok (r.S' i, r.g i, r.eff i, H.tch i)
 step : stepB H i o (r.A i) (r.V i) (r.S' i) (r.eff i) (H.tch i) = true
 gd : gdB (r.g i) (r.A i).n = true
 next : r.A (i + 1) = nextOf o.dst (H.tch i) (r.A i) (r.S' i)
theorem rec_at (h : build E ops.toList H ops.toList 0 S0 = .ok (rs, Z)) : rs.length = ops.size ∧ (rgOf H rs Z).A 0 = S0 ∧ (rgOf H rs Z).A rs.length = Z ∧ ∀ i o, ops[i]? = some o → RecAt E ops H (rgOf H rs Z) i o := by
 obtain ⟨h1, h2, h3⟩ := build_ok h
 refine ⟨by simpa using h1, h2, ?_, fun i o ho => ?_⟩
 ·simp [rgOf]
 ·obtain ⟨rc, r1, r2, r3, r4, r5⟩ := h3 i o (by simpa using ho)
  rw [Nat.zero_add] at r2 r3 r4 r5;have eA : (rgOf H rs Z).A i = rc.A := by simp [rgOf, r1]
  have eV : (rgOf H rs Z).V i = rc.V := by simp [rgOf, r1]
  have eS : (rgOf H rs Z).S' i = rc.S' := by simp [rgOf, r1]
  have eg : (rgOf H rs Z).g i = rc.g := by simp [rgOf, r1]
  have ee : (rgOf H rs Z).eff i = rc.eff := by simp [rgOf, r1]
  refine ⟨?_, ?_, ?_, ?_, ?_⟩
  ·rw [eV, eA]; exact r2
  ·rw [eV, eS, eg, ee]; exact r3
  ·rw [eA, eV, eS, ee]; exact r4.1
  ·rw [eg, eA]; exact r4.2
  ·rw [eA, eS]; exact r5
structure StepD (H : Hint) (i : Nat) (o : Oper) (A V S' : SS) (eff : Eff) (tch : List Nat) : Prop where
 dst : o.dst = H.dst i
 tch : tch = H.tch i
 edge : ∀ e, e ∈ o.after → Region.binds .any e = true → e.on < i
 bef : ∀ j, j < i → H.bef i j = true → ∃ e, e ∈ o.after ∧ Region.binds .any e = true ∧ (j = e.on ∨ H.bef e.on j = true)
 n : S'.n = A.n + effLen eff
 slen : S'.slots.length = A.slots.length
 dlt : ∀ d, o.dst = some d → d < A.slots.length
 hlen : A.heap.length = H.len i
 hgrow : A.heap.length ≤ S'.heap.length
 hlen' : S'.heap.length = H.len (i + 1)
 tl : ∀ β, β ∈ H.tch i → live V.heap β ∧ ∀ sb, S'.heap[β]? = some sb → refsSB (H.p i) sb = true
 pair : ∀ j, j < i → H.bef i j = true ∨ ((H.dst i = none ∨ H.dst i ≠ H.dst j) ∧ ∀ β, β ∈ H.tch i → H.wrB j β = false)
 refS : ∀ d s, o.dst = some d → S'.slots[d]? = some s → refsSV (H.p i) s = true
 refN : ∀ sb, sb ∈ S'.heap.drop A.heap.length → refsSB (H.p i) sb = true
theorem stepB_ok {i : Nat} {o : Oper} {A V S' : SS} {eff : Eff} {tch : List Nat} (h : stepB H i o A V S' eff tch = true) : StepD H i o A V S' eff tch := by
 unfold stepB at h
 simp only [Bool.and_eq_true] at h
 obtain ⟨⟨⟨⟨⟨⟨⟨⟨⟨⟨⟨⟨⟨c1, c2⟩, c3⟩, c4⟩, c5⟩, c6⟩, c7⟩, c8⟩, c8'⟩, c9⟩, c10⟩, c11⟩, c12⟩, c13⟩ := h
 refine ⟨by simpa using c1, by simpa using c2, fun e he hb => ?_, fun j hj hb => ?_, by simpa using c5, by simpa using c6, fun d hd => ?_, by simpa using c8, by simpa using c8', by simpa using c9, fun β hβ => ?_, fun j hj => ?_, fun d s hd hs => ?_, fun sb hsb => ?_⟩
 ·have := List.all_eq_true.1 c3 e (by simpa using he)
  simpa [hb] using this
 ·have := List.all_eq_true.1 c4 j (List.mem_range.2 hj)
  simp only [hb, Bool.not_true, Bool.false_or, List.any_eq_true, Bool.and_eq_true, Bool.or_eq_true, beq_iff_eq] at this;obtain ⟨e, h1, h2, h3⟩ := this;exact ⟨e, by simpa using h1, h2, h3⟩
 ·rw [hd] at c7; simpa using c7
 ·have c := List.all_eq_true.1 c10 β hβ
  simp only [Bool.and_eq_true] at c;refine ⟨liveB_iff.1 c.1, fun sb hs => ?_⟩
  have := c.2;rw [hs] at this;exact this
 ·have := List.all_eq_true.1 c11 j (List.mem_range.2 hj)
  simp only [Bool.or_eq_true, Bool.and_eq_true, beq_iff_eq, bne_iff_ne, ne_eq] at this
  rcases this with h1 | ⟨h1, h2⟩
  ·exact .inl h1
  ·refine .inr ⟨h1, fun β hβ => ?_⟩
   have := List.all_eq_true.1 h2 β hβ;simpa using this
 ·rw [hd] at c12
  simp only [hs] at c12;exact c12
 ·exact List.all_eq_true.1 c13 sb hsb
theorem rg_ok (h : build E ops.toList H ops.toList 0 S0 = .ok (rs, Z)) (hn : H.N = ops.size) (hsf : softB (rgOf H rs Z) = true) : (rgOf H rs Z).Ok E ops := by
 obtain ⟨hlen, hA0, hAN, hrec⟩ := rec_at h
 generalize hr : rgOf H rs Z = r at *
 have hN : r.N = ops.size := by rw [← hr]; exact hlen
 have hdst : r.dst = H.dst := by rw [← hr]; rfl
 have htch : r.tch = H.tch := by rw [← hr]; rfl
 have hbef : r.bef = H.bef := by rw [← hr]; rfl
 have at' : ∀ i, i < r.N → ∃ o, ops[i]? = some o ∧ RecAt E ops H r i o ∧ StepD H i o (r.A i) (r.V i) (r.S' i) (r.eff i) (H.tch i) := by
  intro i hi;have : i < ops.size := by rw [← hN]; exact hi
  have ho : ops[i]? = some ops[i] := by simp [this]
  exact ⟨_, ho, hrec i _ ho, stepB_ok (hrec i _ ho).step⟩
 have hvh : ∀ i, i < r.N → (r.V i).heap.length = (r.A i).heap.length := by intro i hi;obtain ⟨o, _, hR, _⟩ := at' i hi;rw [hR.view];simp [viewOf, maskB]
 have hgrow : ∀ i, i < r.N → (r.A i).heap.length ≤ (r.S' i).heap.length := by intro i hi;obtain ⟨o, _, hR, hS⟩ := at' i hi;exact hS.hgrow
 have hlenS : ∀ i, i < r.N → r.len (i + 1) = (r.S' i).heap.length := by intro i hi;obtain ⟨o, _, hR, hS⟩ := at' i hi;have := hgrow i hi;unfold Rg.len;rw [hR.next];simp only [nextOf, List.length_append, List.length_drop, overB_length];omega
 have hlenI : ∀ i, i < r.N → r.len i = H.len i := fun i hi => (at' i hi).elim fun o h => h.2.2.hlen
 have hlenI' : ∀ i, i < r.N → r.len (i + 1) = H.len (i + 1) := fun i hi => by obtain ⟨o, _, _, hS⟩ := at' i hi;rw [hlenS i hi, hS.hlen']
 have hwrB : ∀ i β, i < r.N → r.wrB i β = H.wrB i β := by intro i β hi;simp only [Rg.wrB, Hint.wrB, htch, hlenI i hi, hlenI' i hi]
 have hun : ∀ i j, r.un i j = H.un i j := by intro i j; simp only [Rg.un, Hint.un, hbef]
 have hp : ∀ i, r.p i = H.p i := by
  intro i
  funext β
  simp only [Rg.p, Hint.p];rw [hn, ← hN];rw [Bool.eq_iff_iff, List.all_eq_true, List.all_eq_true]
  constructor
  ·intro hh j hj
   have := hh j hj;have hj' := List.mem_range.1 hj;rw [hun, hlenI j hj', hlenI' j hj'] at this;exact this
  ·intro hh j hj
   have := hh j hj;have hj' := List.mem_range.1 hj;rw [hun, hlenI j hj', hlenI' j hj'];exact this
 have hlmono : ∀ i j, i ≤ j → j ≤ r.N → r.len i ≤ r.len j := by
  intro i j hij
  induction j with
  | zero => intro _; rw [Nat.le_zero.1 hij]; exact Nat.le_refl _
  | succ j ih =>
   intro hj
   rcases Nat.lt_or_eq_of_le hij with hlt | rfl
   ·refine Nat.le_trans (ih (Nat.le_of_lt_succ hlt) (Nat.le_of_lt hj)) ?_
    rw [hlenS j hj];exact hgrow j hj
   ·exact Nat.le_refl _
 refine
  {size := hN.symm
   op := fun i o ho => ?_
   edgeLt := fun i o e ho he hb => (stepB_ok (hrec i o ho).step).edge e he hb
   befE := fun i o j ho hb => ?_
   vn := fun i hi => ?_
   vslen := fun i hi => ?_
   vslot := fun i hi k s hs => ?_
   vhlen := hvh
   vblk := fun i hi β sb hs => ?_
   an := fun i hi => ?_
   anMono := fun i hi => ?_
   aslen := fun i hi => ?_
   aslot := fun i hi k => ?_
   alen := hlenS
   ablk := fun i hi β => ?_
   lenS := fun i hi => by rw [hlenS i hi]; exact hgrow i hi
   tlive := fun i hi β ht => ?_
   cS := fun i j k hij hj h1 h2 => ?_
   cB := fun i j β hij hj h1 h2 => ?_
   refS := fun i hi k s hd hs => ?_
   refB := fun i hi β sb hw hs => ?_ }
 ·have hS := stepB_ok (hrec i o ho).step
  exact ⟨by rw [htch]; exact (hrec i o ho).sop, by rw [hdst]; exact hS.dst⟩
 ·rw [hbef] at hb ⊢
  have hj : j < i := by simp only [Hint.bef, Bool.and_eq_true, decide_eq_true_eq] at hb;exact hb.1
  exact (stepB_ok (hrec i o ho).step).bef j hj hb
 ·obtain ⟨o, _, hR, _⟩ := at' i hi
  rw [hR.view]; rfl
 ·obtain ⟨o, _, hR, _⟩ := at' i hi
  rw [hR.view]; exact maskS_length _ _
 ·obtain ⟨o, _, hR, _⟩ := at' i hi
  rw [hR.view] at hs
  rcases maskS_get _ _ k s hs with h1 | ⟨h1, h2⟩
  ·exact .inl h1
  ·refine .inr ⟨h1, fun j hj hu hd => h2 ?_⟩
   simp only [Hint.badS, List.mem_filterMap, List.mem_range];refine ⟨j, by rw [hn, ← hN]; exact hj, ?_⟩
   rw [← hun, hu, ← hdst, hd];rfl
 ·obtain ⟨o, _, hR, _⟩ := at' i hi
  rw [hR.view] at hs;have hs' : (maskB (fun β => (List.range H.N).any fun j => H.un i j && H.wrB j β) (softV H (r.A i).n i) (r.A i).heap)[β]? = some sb := hs
  rcases maskB_get hs' with ⟨_, sb0, h1⟩ | ⟨h1, h2⟩
  ·rcases softV_or H (r.A i).n i β sb0 with h2 | ⟨m, d, h2⟩
   ·exact .inl (by rw [h1, h2])
   ·rw [h2] at h1
    subst h1;have hv : (r.V i).heap[β]? = some (.mapz m d) := by rw [hR.view]; exact hs
    have h3 := List.all_eq_true.1 hsf i (List.mem_range.2 hi)
    have h4 := List.all_eq_true.1 h3 (.mapz m d, β) (by
     refine List.mem_of_getElem? (i := β) ?_;rw [List.getElem?_zipIdx, hv]
     simp)
    obtain ⟨j, hj⟩ := softAtB_ok h4;exact .inr (.inr ⟨m, d, j, rfl, hj⟩)
  ·refine .inr (.inl ⟨h1, fun j hj hu => ?_⟩)
   rw [List.any_eq_false] at h2;have := h2 j (List.mem_range.2 (by rw [hn, ← hN]; exact hj))
   rw [← hun, hu, Bool.true_and, ← hwrB j β hj] at this;simpa using this
 ·obtain ⟨o, _, hR, _⟩ := at' i hi
  show (r.A (i + 1)).n = _;rw [hR.next]; rfl
 ·obtain ⟨o, _, hR, hS⟩ := at' i hi
  show (r.A i).n ≤ (r.A (i + 1)).n;rw [hR.next];show _ ≤ (r.S' i).n;rw [hS.n];exact Nat.le_add_right _ _
 ·obtain ⟨o, _, hR, _⟩ := at' i hi
  rw [hR.next];simp only [nextOf];split <;> simp
 ·obtain ⟨o, _, hR, hS⟩ := at' i hi
  rw [hR.next, hdst, ← hS.dst];simp only [nextOf]
  cases hd : o.dst with
  | none => simp
  | some d =>
   have hlt := hS.dlt d hd;simp only [Option.some.injEq];split
   ·rename_i he
    subst he;rw [List.getElem?_set_self hlt];have : d < (r.S' i).slots.length := by rw [hS.slen]; exact hlt
    simp [List.getD_eq_getElem?_getD, this]
   ·rename_i he
    rw [List.getElem?_set_ne he]
 ·obtain ⟨o, _, hR, hS⟩ := at' i hi
  have hg := hgrow i hi;rw [hR.next];simp only [nextOf];have hlA : r.len i = (r.A i).heap.length := rfl
  rcases Nat.lt_or_ge β (r.A i).heap.length with hlt | hge
  ·rw [List.getElem?_append_left (by rw [overB_length]; exact hlt)]
   obtain ⟨g1, g2, _⟩ := overB_get (S' := r.S' i) (tch := H.tch i) (h := (r.A i).heap) (β := β) (by omega) hlt
   by_cases hm : β ∈ H.tch i
   ·rw [g1 hm, if_pos (by simp [Rg.wrB, htch, hm])]
   ·rw [g2 hm, if_neg]
    simp only [Rg.wrB, htch, Bool.or_eq_true, List.contains_iff_mem, Bool.and_eq_true, decide_eq_true_eq, not_or, not_and, Nat.not_lt];exact ⟨hm, fun h1 => by rw [hlA] at h1; omega⟩
  ·rw [List.getElem?_append_right (by rw [overB_length]; exact hge), overB_length, List.getElem?_drop, show (r.A i).heap.length + (β - (r.A i).heap.length) = β from by omega]
   split
   ·rfl
   ·rename_i hw
    simp only [Rg.wrB, htch, Bool.or_eq_true, List.contains_iff_mem, Bool.and_eq_true, decide_eq_true_eq, not_or, not_and, Nat.not_lt] at hw;have := hw.2 (by rw [hlA]; exact hge)
    rw [hlenS i hi] at this;rw [List.getElem?_eq_none this, List.getElem?_eq_none hge]
 ·obtain ⟨o, _, hR, hS⟩ := at' i hi
  rw [htch] at ht;exact (hS.tl β ht).1
 ·obtain ⟨o, _, hR, hS⟩ := at' j hj
  rw [hbef];rw [hdst] at h1 h2
  rcases hS.pair i hij with h3 | ⟨h3, _⟩
  ·exact h3
  ·rcases h3 with h3 | h3
   ·rw [h3] at h2; cases h2
   ·exact absurd (h2.trans h1.symm) h3
 ·obtain ⟨o, _, hR, hS⟩ := at' j hj
  have hi : i < r.N := Nat.lt_trans hij hj;rw [hbef]
  rcases hS.pair i hij with h3 | ⟨_, h3⟩
  ·exact h3
  ·exfalso
   have hw2 : β ∈ H.tch j ∨ (r.len j ≤ β ∧ β < r.len (j + 1)) := by simpa [Rg.wrB, htch] using h2
   rcases hw2 with ht | ⟨h4, h5⟩
   ·have := h3 β ht
    rw [← hwrB i β hi, h1] at this
    cases this
   ·have hw1 : β ∈ H.tch i ∨ (r.len i ≤ β ∧ β < r.len (i + 1)) := by simpa [Rg.wrB, htch] using h1
    have hm := hlmono (i + 1) j hij (Nat.le_of_lt hj)
    rcases hw1 with ht | ⟨h6, h7⟩
    ·obtain ⟨oi, _, hRi, hSi⟩ := at' i hi
     have hl : β < (r.A i).heap.length := by rw [← hvh i hi]; exact live_lt (hSi.tl β ht).1
     have hm2 := hlmono i j (Nat.le_of_lt hij) (Nat.le_of_lt hj);have : r.len i = (r.A i).heap.length := rfl;omega
    ·omega
 ·obtain ⟨o, _, hR, hS⟩ := at' i hi
  rw [hp];exact hS.refS k s (by rw [hS.dst, ← hdst]; exact hd) hs
 ·obtain ⟨o, _, hR, hS⟩ := at' i hi
  rw [hp];have hw1 : β ∈ H.tch i ∨ (r.len i ≤ β ∧ β < r.len (i + 1)) := by simpa [Rg.wrB, htch] using hw
  rcases hw1 with ht | ⟨h6, h7⟩
  ·exact (hS.tl β ht).2 sb hs
  ·refine hS.refN sb ?_
   refine List.mem_of_getElem? (i := β - (r.A i).heap.length) ?_;rw [List.getElem?_drop];have : r.len i = (r.A i).heap.length := rfl;rw [show (r.A i).heap.length + (β - (r.A i).heap.length) = β from by omega]
   exact hs
end
end Vs

