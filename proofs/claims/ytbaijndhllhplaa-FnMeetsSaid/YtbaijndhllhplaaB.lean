/-
  Addresses of elements, composites, lengths, choices, functions of the library: and all local operations together.
-/
import Derived.Test.YtbaijndhllhplaaA
import Derived.Laws.Tables
import Derived.BigCall
import Derived.Laws.Externs
import Derived.Great.BuildSlice
namespace Vs
open Go Go.RowKit
section
variable {P : Program} {X : Nat → Prop} {M : Hand} {w0 w : World} {S : SS} {μ : Mu} {ρ : List D} {a : Act}
theorem map_get_lt {ls : List (List D)} {i : Nat} {ag : Bool} {d : D} (h : (ls.map (unflat ag))[i]? = some d) : ∃ l, ls[i]? = some l ∧ d = unflat ag l := by
 rw [List.getElem?_map] at h
 obtain ⟨l, hl, e⟩ := map_some_eq h
 exact ⟨l, hl, e.symm⟩
theorem lopIndexAddr_ok {t : TypeId} {x i v : SV} {ps : List Push} {vx vi : Value} {ρ' : List D} (h : lopIndexAddr P S t x i = .ok (v, ps)) (hR : R X M w0 S μ ρ a w)
  (hx : SVR w (Fz X S.heap μ w) S.heap.length μ ρ x vx) (hi : SVR w (Fz X S.heap μ w) S.heap.length μ ρ i vi) (hp : pushAll ps ρ = some ρ') :
  ∃ u, (Instr.indexAt t vx vi).run P w = .ok u w ∧ SVR w (Fz X S.heap μ w) S.heap.length μ ρ' v u := by
 unfold lopIndexAddr at h
 split at h
 ·rename_i e k ix hs
  obtain ⟨n, rfl, hn⟩ := rd_int hi;split at h
  ·
   rename_i et l;split at h
   ·rename_i hz
    simp only [Except.ok.injEq, Prod.mk.injEq] at h;obtain ⟨rfl, rfl⟩ := h;obtain ⟨d, hl, ls, rfl, hd⟩ := hx;simp only [pushAll, evs, List.map_cons, List.map_nil, Atom.ev_of_get hl, Atom.ev_of_get hn, Prim.ev, List.length_map] at hp;split at hp
    ·rename_i d hd'
     split at hd'
     ·rename_i hb
      obtain ⟨el, hel, rfl⟩ := map_get_lt hd'
      rcases hd with ⟨_, rfl⟩ | ⟨b, off, cap, xs, rfl, _, hF, hc, hrr⟩
      ·simp at hel
      have hn1 : (ρ ++ [unflat et.agg el]).length = S.n + 1 := by simp [hR.len]
      obtain ⟨c, hcc, hcx⟩ := rowRd_get (w := w) (F := Fz X S.heap μ w) (t := .s1 et) hrr hel;rw [← hn1] at hp ⊢;have hgo := elemCells_ok (w := w) (F := Fz X S.heap μ w) (t := .s1 et) (x := .v S.n) (ρ := ρ ++ [unflat et.agg el]) (get_new hR.len) hcc hp;refine ⟨.pointer (some ⟨b, off + n.toNat * et.cells.length, none⟩), ?_, b, off + n.toNat * et.cells.length, rfl, hF, ?_⟩
      ·simp [Instr.indexAt, asIntOf, run_underlying hs, sizeB_run hz, addr_add, hb.1, hb.2]
      ·intro j c hj
       rw [List.getElem?_map] at hj;obtain ⟨⟨t, x⟩, hj', rfl⟩ := map_some_eq hj;obtain ⟨u, d, hu, hd, hr⟩ := hgo j t x hj';refine ⟨u, ?_, d, hd, hr⟩;have := hc _ _ (hcx _ _ hu);rw [Nat.add_assoc];exact this
     ·cases hd'
    ·cases hp
   ·cases h
  ·
   rename_i et l;split at h
   ·rename_i hz
    simp only [Except.ok.injEq, Prod.mk.injEq] at h;obtain ⟨rfl, rfl⟩ := h;obtain ⟨d, hl, ls, rfl, hd⟩ := hx;obtain ⟨d, hd', rfl⟩ := pushAll_one hp;simp only [evs, List.map_cons, List.map_nil, Atom.ev_of_get hl, Atom.ev_of_get hn, Prim.ev, List.length_map] at hd';split at hd'
    ·rename_i hb
     obtain ⟨el, hel, rfl⟩ := map_get_lt hd'
     rcases hd with ⟨_, rfl⟩ | ⟨b, off, cap, xs, rfl, _, hF, hc, hrr⟩
     ·simp at hel
     obtain ⟨c, hcc, hcx⟩ := rowRd_get (w := w) (F := Fz X S.heap μ w) (t := .s2 et) hrr hel;refine ⟨.pointer (some ⟨b, off + n.toNat * 1, none⟩), ?_, b, off + n.toNat * 1, rfl, hF, ?_⟩
     ·simp [Instr.indexAt, asIntOf, run_underlying hs, sizeB_run hz, addr_add, hb.1, hb.2]
     ·intro j c hj
      cases j with
      | succ j => simp at hj
      | zero =>
       simp only [List.getElem?_cons_zero, Option.some.injEq] at hj;subst hj;obtain ⟨u, d, hu, hd, hr⟩ := RdCs.get hcc (t := CT.s1 et) (j := 0) rfl;have hl := hcc.length.2
       match el, hl with
       | [d'], _ =>
        simp only [List.getElem?_cons_zero, Option.some.injEq] at hd;subst hd;refine ⟨u, ?_, _, get_new hR.len, by simpa [unflat] using hr⟩
        have := hc _ _ (hcx _ _ hu);simpa [rowSz] using this
    ·cases hd'
   ·cases h
  ·
   rename_i β;split at h
   ·rename_i rt e' l hrow
    split at h
    ·rename_i hz
     simp only [Except.ok.injEq, Prod.mk.injEq] at h;obtain ⟨rfl, rfl⟩ := h;obtain ⟨hβ, rfl, _⟩ := hx;obtain ⟨_, m, xs, ls, hown, _, hl, hm, hrd⟩ := hR.blocks β _ hrow;obtain ⟨d, hd', rfl⟩ := pushAll_one hp;simp only [evs, List.map_cons, List.map_nil, Atom.ev_of_get hl, Atom.ev_of_get hn, Prim.ev, List.length_map] at hd';split at hd'
     ·rename_i hb
      rcases hown.2 with ⟨_, h0⟩ | ⟨g, cap', cur, hsl, _, hheap, _, _, _, htake⟩
      ·omega
      refine ⟨.pointer (some ⟨g, n.toNat * rowSz rt, none⟩), ?_, hβ, g, m, cap', n, hsl, Atom.get_append hn, hb.1, by omega, rfl⟩
      rw [hsl];have h2 : n < (m : Int) := by omega
      simp [Instr.indexAt, asIntOf, run_underlying hs, sizeB_run hz, addr_add, hb.1, h2]
     ·cases hd'
    ·cases h
   ·
    rename_i et f e' ver l hrow;split at h
    ·rename_i hz
     simp only [Except.ok.injEq, Prod.mk.injEq] at h;obtain ⟨rfl, rfl⟩ := h;obtain ⟨hβ, rfl, _⟩ := hx;obtain ⟨_, m, ls, hown, _, hl, hm, _⟩ := hR.blocks β _ hrow;obtain ⟨d, hd', rfl⟩ := pushAll_one hp;simp only [evs, List.map_cons, List.map_nil, Atom.ev_of_get hl, Atom.ev_of_get hn, rowsDat, Prim.ev, List.length_map] at hd';split at hd'
     ·rename_i hb
      rcases hown.2 with ⟨_, h0⟩ | ⟨g, cap', cur, hsl, _, hheap, _, _, _, htake⟩
      ·omega
      refine ⟨.pointer (some ⟨g, n.toNat * 1, none⟩), ?_, hβ, g, m, cap', n, hsl, Atom.get_append hn, hb.1, by omega, rfl⟩
      rw [hsl];have h2 : n < (m : Int) := by omega
      simp [Instr.indexAt, asIntOf, run_underlying hs, sizeB_run hz, addr_add, hb.1, h2]
     ·cases hd'
    ·cases h
   ·cases h
  ·
   rename_i β ver d ks y;split at h
   ·rename_i et e' hnow
    split at h
    ·rename_i hc
     obtain ⟨hz, hag, hcl⟩ := hc;simp only [Except.ok.injEq, Prod.mk.injEq] at h;obtain ⟨rfl, rfl⟩ := h;obtain ⟨hβ, l, hl, hm⟩ := hx;obtain ⟨m, xs, ls, hown, hy, hlm, hrd⟩ := mapNow_ok hR hnow hl hm;obtain ⟨dd, hd', rfl⟩ := pushAll_one hp;simp only [evs, List.map_cons, List.map_nil, Atom.ev_of_get hy, Atom.ev_of_get hn, Prim.ev, List.length_map] at hd';split at hd'
     ·rename_i hb
      rcases hown.2 with ⟨_, h0⟩ | ⟨g, cap', cur, hsl, _, hheap, _, _, _, htake⟩
      ·omega
      refine ⟨.pointer (some ⟨g, n.toNat, none⟩), ?_, hβ, l, vx, hl, hm.app _, g, m, cap', n, hsl, Atom.get_append hn, hb.1, by omega, rfl⟩
      rw [hsl];have h2 : n < (m : Int) := by omega
      simp [Instr.indexAt, asIntOf, run_underlying hs, sizeB_run hz, addr_add, hb.1, h2]
     ·cases hd'
    ·cases h
   ·cases h
  ·
   rename_i β ver d j y;split at h
   ·rename_i et e' hnow
    split at h
    ·rename_i hz
     simp only [Except.ok.injEq, Prod.mk.injEq] at h;obtain ⟨rfl, rfl⟩ := h;obtain ⟨hβ, l, hl, hm⟩ := hx;obtain ⟨⟨m, xs, ls, hown, hy, hlm, hrd⟩, _⟩ := rowsNow_ok hR hnow hl hm;obtain ⟨dd, hd', rfl⟩ := pushAll_one hp;simp only [evs, List.map_cons, List.map_nil, Atom.ev_of_get hy, Atom.ev_of_get hn, Prim.ev, List.length_map] at hd';split at hd'
     ·rename_i hb
      rcases hown.2 with ⟨_, h0⟩ | ⟨g, cap', cur, hsl, _, hheap, _, _, _, htake⟩
      ·omega
      refine ⟨.pointer (some ⟨g, n.toNat * et.cells.length, none⟩), ?_, hβ, l, vx, hl, hm.app _, g, m, cap', n, hsl, Atom.get_append hn, hb.1, by omega, rfl⟩
      rw [hsl];have h2 : n < (m : Int) := by omega
      simp [Instr.indexAt, asIntOf, run_underlying hs, sizeB_run hz, addr_add, hb.1, h2]
     ·cases hd'
    ·cases h
   ·cases h
  ·cases h
 ·rename_i len e k ix hs
  split at h
  ·rename_i j sz hj hz
   have := rd_nat hi hj;subst this;split at h
   ·rename_i hlt
    obtain ⟨q, hq, h⟩ := bind_ok h;simp only [Except.ok.injEq, Prod.mk.injEq] at h;obtain ⟨rfl, rfl⟩ := h;obtain ⟨b, o, rfl, hq'⟩ := ptrAdd_ok hq hx;simp only [pushAll, Option.some.injEq] at hp;subst hp;refine ⟨_, ?_, hq'⟩;simp [Instr.indexAt, asIntOf, run_underlying hs, sizeB_run hz, addr_add, Instr.sureAddr];intro h3; omega
   ·cases h
  ·cases h
 ·cases h
theorem lopLen_ok {t : TypeId} {x v : SV} {ps : List Push} {vx : Value} {ρ' : List D} {ty : TypeId} {ats : Array TypeId} (h : lopLen P S t x = .ok (v, ps)) (hR : R X M w0 S μ ρ a w) (hat : ats[0]? = some t)
  (hx : SVR w (Fz X S.heap μ w) S.heap.length μ ρ x vx) (hp : pushAll ps ρ = some ρ') :
  ∃ u, (Builtin.len_ ats ty #[vx]).run P w = .ok u w ∧ SVR w (Fz X S.heap μ w) S.heap.length μ ρ' v u := by
 have key : ∀ (e : TypeId) (l : Atom) (n : Nat) (ds : List D), P.underlying t = some (.slice e) → l.get ρ = some (.lst ds) → ds.length = n → (∃ a cap, vx = .slice a n cap) → pushAll [(Prim.len, [l])] ρ = some ρ' →
   ∃ u, (Builtin.len_ ats ty #[vx]).run P w = .ok u w ∧ SVR w (Fz X S.heap μ w) S.heap.length μ ρ' (bdat (.int .i64) (.v S.n)) u := by
  intro e l n ds hs hl hn ⟨ad, cap, hv⟩ hp;subst hv;obtain ⟨d, hd, rfl⟩ := pushAll_one hp;simp only [evs, List.map_cons, List.map_nil, Atom.ev_of_get hl, Prim.ev, Option.some.injEq] at hd;subst hd;refine ⟨.int .i64 n, ?_, mk_int (by rw [← hn]; exact get_new hR.len)⟩
  simp [Builtin.len_, hat, run_underlying hs, goInt]
 have frozen : ∀ (ct : CT) (l : Atom), (∀ b, ct ≠ .b b) → SVR w (Fz X S.heap μ w) S.heap.length μ ρ (.c (.s (.dat ct l))) vx → ∃ ds n, l.get ρ = some (.lst ds) ∧ ds.length = n ∧ ∃ a cap, vx = .slice a n cap := by
  intro ct l hct ⟨d, hl, hd⟩;obtain ⟨ls, rfl, hd2⟩ := rowRd_sl hd hct
  rcases hd2 with ⟨⟨a, cap, rfl, _⟩, rfl⟩ | ⟨b, off, cap, xs, rfl, _⟩
  ·exact ⟨_, 0, hl, rfl, _, _, rfl⟩
  ·exact ⟨_, _, hl, by simp, _, _, rfl⟩
 unfold lopLen at h
 split at h
 ·rename_i e et l hs
  simp only [Except.ok.injEq, Prod.mk.injEq] at h;obtain ⟨rfl, rfl⟩ := h;obtain ⟨ds, n, h1, h2, h3⟩ := frozen _ l (by simp) hx
  exact key e l n ds hs h1 h2 h3 hp
 ·rename_i e et l hs
  simp only [Except.ok.injEq, Prod.mk.injEq] at h;obtain ⟨rfl, rfl⟩ := h;obtain ⟨ds, n, h1, h2, h3⟩ := frozen _ l (by simp) hx
  exact key e l n ds hs h1 h2 h3 hp
 ·rename_i e β hs
  split at h
  ·rename_i rt e' l hrow
   simp only [Except.ok.injEq, Prod.mk.injEq] at h;obtain ⟨rfl, rfl⟩ := h;obtain ⟨hβ, rfl, _⟩ := hx;obtain ⟨_, m, xs, ls, hown, _, hl, hm, hrd⟩ := hR.blocks β _ hrow;refine key e l m _ hs hl (by simp [hm]) ?_ hp
   rcases hown.2 with ⟨h1, h0⟩ | ⟨g, cap', cur, hsl, _⟩
   ·subst h0; exact ⟨_, _, h1⟩
   ·exact ⟨_, _, hsl⟩
  ·rename_i et f e' ver l hrow
   simp only [Except.ok.injEq, Prod.mk.injEq] at h;obtain ⟨rfl, rfl⟩ := h;obtain ⟨hβ, rfl, _⟩ := hx;obtain ⟨_, m, ls, hown, _, hl, hm, _⟩ := hR.blocks β _ hrow;exact key e l m _ hs hl (by simp [hm]) (ownsRow_slice hown) hp
  ·cases h
 ·rename_i e hs
  simp only [Except.ok.injEq, Prod.mk.injEq] at h;obtain ⟨rfl, rfl⟩ := h;have hx : vx = .slice none 0 0 := hx;subst hx;refine ⟨.int .i64 0, ?_, mk_int rfl⟩;simp [Builtin.len_, hat, run_underlying hs, goInt]
 ·rename_i e β ver d ks y hs
  split at h
  ·rename_i hnow
   simp only [Except.ok.injEq, Prod.mk.injEq] at h;obtain ⟨rfl, rfl⟩ := h;obtain ⟨_, l, hl, hm⟩ := hx;obtain ⟨m, xs, ls, hown, hy, hlm, _⟩ := mapNow_ok hR hnow hl hm;exact key e y m _ hs hy (by simp [hlm]) (ownsRow_slice hown) hp
  ·cases h
 ·rename_i e β ver d j y hs
  split at h
  ·rename_i hnow
   simp only [Except.ok.injEq, Prod.mk.injEq] at h;obtain ⟨rfl, rfl⟩ := h;obtain ⟨_, l, hl, hm⟩ := hx;obtain ⟨⟨m, xs, ls, hown, hy, hlm, _⟩, _⟩ := rowsNow_ok hR hnow hl hm;exact key e y m _ hs hy (by simp [hlm]) (ownsRow_slice hown) hp
  ·cases h
 ·cases h
end
section
variable {P : Program} {w : World} {F : Nat → Prop} {hl : Nat} {μ : Mu} {ρ : List D}
theorem foldl_fill (off : Nat) : ∀ (vs : List Value) (k : Nat) (arr : Array Value), off + k + vs.length ≤ arr.size →
  ((vs.zipIdx k).foldl (fun (cs : Array Value) (x : Value × Nat) => cs.setIfInBounds (off + x.2) x.1) arr).toList = arr.toList.take (off + k) ++ vs ++ arr.toList.drop (off + k + vs.length)
 | [], k, arr, _ => by simp
 | v :: vs, k, arr, h => by
  simp only [List.length_cons] at h;rw [List.zipIdx_cons, List.foldl_cons, foldl_fill off vs (k + 1) _ (by simp; omega)]
  have h1 : off + k < arr.toList.length := by simp; omega
  have h2 : off + k < (arr.toList.set (off + k) v).length := by simpa using h1
  simp only [Array.toList_setIfInBounds];rw [show off + (k + 1) = off + k + 1 from rfl, List.take_succ_eq_append_getElem h2, List.getElem_set_self, List.take_set_of_le (Nat.le_refl _), List.drop_set_of_lt (by omega)]
  rw [show off + k + 1 + vs.length = off + k + (v :: vs).length from by simp; omega]
  simp
theorem CVR_one {c : CV} {v : Value} (hp : plainCV c = true) (h : CVR w F hl μ ρ c v) : v.oneCell' = true := by
 have sl : ∀ (rr : List Value → List (List D) → Prop) (ag : Bool) (d : D), RdSl w F rr ag v d → v.oneCell' = true := by
  rintro rr ag d ⟨ls, _, ⟨⟨a, cap, rfl, _⟩, _⟩ | ⟨b, off, cap, xs, rfl, _⟩⟩ <;> rfl
 cases c with
 | fn f caps => obtain ⟨cs, rfl, _⟩ := h; rfl
 | s c =>
  cases c with
  | undef => simp [plainCV] at hp
  | nils => simp only [CVR, CVR0] at h; subst h; rfl
  | dat t x =>
   obtain ⟨d, _, hd⟩ := h
   cases t with
   | b t => cases t <;> (obtain ⟨n, rfl, _⟩ := hd; rfl)
   | s1 e => exact sl _ _ _ hd
   | s2 e => exact sl _ _ _ hd
  | own β => obtain ⟨_, rfl, a, l, c, e⟩ := h; rw [e]; rfl
  | vptr β off => obtain ⟨_, b, _, rfl⟩ := h; rfl
  | eptr β i sz off => obtain ⟨_, b, _, _, _, _, _, _, _, rfl⟩ := h; rfl
  | rref β ver d i y => obtain ⟨_, _, _, _, _, _, _, _, _, _, _, a, len, cap, rfl⟩ := h; rfl
  | rptr β ver d i y ix sz off => obtain ⟨_, _, _, _, _, b, len, cap, n, _, _, _, _, rfl⟩ := h; rfl
  | fcel cs off => obtain ⟨b, o, rfl, _⟩ := h; rfl
  | omap β => obtain ⟨_, rfl, b, e⟩ := h; rw [e]; rfl
  | mref β ver d ks y => obtain ⟨_, _, _, _, _, _, _, _, _, _, a, len, cap, rfl⟩ := h; rfl
  | ment β ver d j y => obtain ⟨_, _, _, _, _, _, _, _, _, _, _, _, a, len, cap, rfl⟩ := h; rfl
  | mptr β ver d ks y i => obtain ⟨_, _, _, _, _, b, len, cap, n, _, _, _, _, rfl⟩ := h; rfl
theorem cells_one {v : Value} (h : v.oneCell' = true) : v.cells = #[v] := by cases v <;> first | rfl | (simp [Value.oneCell'] at h; done)
theorem svCells_ok {s : SV} {ag : Bool} {cs : List CV} {v : Value} (h : svCells s = some (ag, cs)) (hp : cs.all plainCV = true) (hs : SVR w F hl μ ρ s v) : CVRs w F hl μ ρ cs v.cells.toList := by
 unfold svCells at h
 split at h <;> simp only [Option.some.injEq, Prod.mk.injEq, reduceCtorEq] at h
 ·obtain ⟨rfl, rfl⟩ := h
  rw [cells_one (CVR_one (by simpa using hp) hs)]
  exact ⟨hs, trivial⟩
 ·obtain ⟨rfl, rfl⟩ := h
  obtain ⟨arr, rfl, hc⟩ := hs;exact hc
theorem CVRs_one {cs : List CV} {vs : List Value} (hp : cs.all plainCV = true) (h : CVRs w F hl μ ρ cs vs) : ∀ v ∈ vs, v.oneCell' = true := by
 induction cs generalizing vs with
 | nil => cases vs with | nil => simp | cons _ _ => exact h.elim
 | cons c cs ih =>
  cases vs with
  | nil => exact h.elim
  | cons u us =>
   simp only [List.all_cons, Bool.and_eq_true] at hp;intro v hv
   rcases List.mem_cons.1 hv with rfl | hv
   ·exact CVR_one hp.1 h.1
   ·exact ih hp.2 h.2 v hv
def PartsR (w : World) (F : Nat → Prop) (hl : Nat) (μ : Mu) (ρ : List D) : List (Nat × SV) → List (Nat × Value) → Prop
 | [], [] => True
 | (i, s) :: r, (j, v) :: q => i = j ∧ SVR w F hl μ ρ s v ∧ PartsR w F hl μ ρ r q
 | _, _ => False
theorem fillS_ok {place : Nat → Option (Nat × Nat)} : ∀ {parts : List (Nat × SV)} {vals : List (Nat × Value)} {cs cs' : List CV} {arr : Array Value}, fillS place cs parts = .ok cs' → CVRs w F hl μ ρ cs arr.toList →
  PartsR w F hl μ ρ parts vals → ∃ arr', Instr.fill place arr vals = some arr' ∧ CVRs w F hl μ ρ cs' arr'.toList
 | [], [], cs, cs', arr, h, hc, _ => by simp only [fillS, Except.ok.injEq] at h; subst h; exact ⟨arr, rfl, hc⟩
 | (i, s) :: r, (j, v) :: q, cs, cs', arr, h, hc, ⟨hij, hs, hr⟩ => by
  subst hij;simp only [fillS] at h;split at h
  ·rename_i off sz ag vs hpl hcl
   split at h
   ·rename_i hlen
    have hv := svCells_ok hcl hlen.2.2 hs;have hvl : v.cells.size = sz := by have := hv.length; simp at this; omega
    have hcl' : cs.length = arr.size := by have := hc.length; simpa using this
    have hsp : (v.cells.zipIdx.foldl (fun (cs : Array Value) (x : Value × Nat) => cs.setIfInBounds (off + x.2) x.1) arr).toList = arr.toList.take off ++ v.cells.toList ++ arr.toList.drop (off + vs.length) := by
     have e := foldl_fill off v.cells.toList 0 arr (by have := hv.length; simp at this ⊢; omega)
     rw [← Array.foldl_toList, Array.toList_zipIdx];rw [e];have := hv.length;simp at this ⊢;rw [this]
    have hc' : CVRs w F hl μ ρ (cs.take off ++ vs ++ cs.drop (off + vs.length)) (v.cells.zipIdx.foldl (fun (cs : Array Value) (x : Value × Nat) => cs.setIfInBounds (off + x.2) x.1) arr).toList := by rw [hsp];exact ((hc.take off).append hv).append (hc.drop _)
    obtain ⟨arr', h1, h2⟩ := fillS_ok h hc' hr;refine ⟨arr', ?_, h2⟩;simp only [Instr.fill, hpl];rw [if_neg]
    ·exact h1
    ·have := hlen.2.1
     have := hv.length;simp at this ⊢;omega
   ·cases h
  ·cases h
theorem lopBuild_ok {t : TypeId} {parts : List (Nat × SV)} {vals : Array (Nat × Value)} {v : SV} {ps : List Push} (h : lopBuild P t parts = .ok (v, ps)) (hp : PartsR w F hl μ ρ parts vals.toList) :
  ps = [] ∧ ∃ u, (Instr.build t vals).run P w = .ok u w ∧ SVR w F hl μ ρ v u := by
 unfold lopBuild at h
 obtain ⟨i, hi0, h1⟩ := bind_ok h
 obtain ⟨z, hz0, h2⟩ := bind_ok h1
 obtain ⟨zs, hzs0, h3⟩ := bind_ok h2
 have hi := need_ok hi0
 have hz := need_ok hz0
 have hzs := litCells_ok (w := w) (F := F) (hl := hl) (μ := μ) (ρ := ρ) (need_ok hzs0)
 clear h h1 h2 hi0 hz0 hzs0
 split at h3
 ·rename_i fs hs
  obtain ⟨places, hpl, h4⟩ := bind_ok h3;obtain ⟨cs, hcs, h5⟩ := bind_ok h4;simp only [Except.ok.injEq, Prod.mk.injEq] at h5;obtain ⟨rfl, rfl⟩ := h5;obtain ⟨arr', hf, hc⟩ := fillS_ok hcs hzs hp;refine ⟨rfl, .agg arr', run_build w t vals arr' ?_, arr', rfl, hc⟩;simp only [Program.built, hi, hs, hz, need_ok hpl];exact hf
 ·rename_i n e hs
  obtain ⟨ie, hie, h4⟩ := bind_ok h3;obtain ⟨cs, hcs, h5⟩ := bind_ok h4;simp only [Except.ok.injEq, Prod.mk.injEq] at h5;obtain ⟨rfl, rfl⟩ := h5;obtain ⟨arr', hf, hc⟩ := fillS_ok hcs hzs hp;refine ⟨rfl, .agg arr', run_build w t vals arr' ?_, arr', rfl, hc⟩;simp only [Program.built, hi, hs, hz, need_ok hie];exact hf
 ·cases h3
end
end Vs

namespace Vs
open Go Go.RowKit
theorem RdRow.dropN {α : Type} {Q : α → Value → D → Prop} {ts : List α} : ∀ {ls : List (List D)} {xs : List Value} (k : Nat), k ≤ ls.length → RdRow Q ts xs ls → RdRow Q ts (xs.drop (k * ts.length)) (ls.drop k)
 | ls, xs, 0, _, h => by simpa using h
 | [], _, k + 1, hk, _ => by simp at hk
 | l :: ls, xs, k + 1, hk, ⟨c, r, e, a, b⟩ => by subst e;have hl := a.length.1;rw [List.drop_succ_cons, Nat.add_mul, Nat.one_mul, Nat.add_comm, ← List.drop_drop, ← hl, List.drop_left, hl];exact RdRow.dropN k (by simpa using hk) b
theorem RdRow.takeN {α : Type} {Q : α → Value → D → Prop} {ts : List α} : ∀ {ls : List (List D)} {xs : List Value} (k : Nat), k ≤ ls.length → RdRow Q ts xs ls → RdRow Q ts (xs.take (k * ts.length)) (ls.take k)
 | ls, xs, 0, _, h => by simp [RdRow]
 | [], _, k + 1, hk, _ => by simp at hk
 | l :: ls, xs, k + 1, hk, ⟨c, r, e, a, b⟩ => by
  subst e;have hl := a.length.1;rw [List.take_succ_cons];refine ⟨c, r.take (k * ts.length), ?_, a, RdRow.takeN k (by simpa using hk) b⟩
  rw [show (k + 1) * ts.length = c.length + k * ts.length from by rw [hl, Nat.add_mul]; omega, List.take_length_add_append]
theorem rowRd_part {t : CT} {w : World} {F : Nat → Prop} {xs : List Value} {ls : List (List D)} {a b : Nat} (hab : a ≤ b) (hb : b ≤ ls.length) (h : rowRd w F t xs ls) :
  rowRd w F t ((xs.take (b * rowSz t)).drop (a * rowSz t)) ((ls.take b).drop a) := by
 cases t with
 | b t => exact h.elim
 | s1 e => exact RdRow.dropN a (by simp; omega) (RdRow.takeN b hb h)
 | s2 e => exact RdRow.dropN a (by simp; omega) (RdRow.takeN b hb h)
section
variable {P : Program} {w : World}
theorem run_sliceBounds {len cap a b : Nat} {lo hi : Option Value} (hlo : match lo with | some v => v = .int .i64 a | none => a = 0) (hhi : match hi with | some v => v = .int .i64 b | none => b = len) (hab : a ≤ b) (hb : b ≤ cap) :
  (Instr.sliceBounds true len cap lo hi none).run P w = .ok (a, b, cap) w := by
 cases lo with
 | none =>
  simp only at hlo;subst hlo
  cases hi with
  | none => simp only at hhi; subst hhi; simp [Instr.sliceBounds]
  | some v =>
   simp only at hhi;subst hhi;simp [Instr.sliceBounds, Instr.sliceBound, asIntOf, hb]
 | some u =>
  simp only at hlo;subst hlo
  cases hi with
  | none => simp only at hhi; subst hhi; simp [Instr.sliceBounds, Instr.sliceBound, asIntOf, hab]
  | some v =>
   simp only at hhi;subst hhi;simp [Instr.sliceBounds, Instr.sliceBound, asIntOf, hab, hb]
theorem slice_part {t e : TypeId} {ct : CT} {F : Nat → Prop} {v : Value} {ds : List D} {a b : Nat} {lo hi : Option Value} (ht : P.underlying t = some (.slice e)) (hz : sizeB P e = some (rowSz ct)) (hct : isSl ct = true) (hv : RdC w F ct v (.lst ds))
  (hlo : match lo with | some v => v = .int .i64 a | none => a = 0) (hhi : match hi with | some v => v = .int .i64 b | none => b = ds.length) (hab : a ≤ b) (hb : b ≤ ds.length) :
  ∃ u, (Instr.sliceAt t v lo hi none).run P w = .ok u w ∧ RdC w F ct u (.lst ((ds.take b).drop a)) := by
 have hne : ∀ b, ct ≠ .b b := fun b e => by subst e; cases hct
 have back : ∀ {u d}, RdSl w F (rowRd w F ct) (rowAgg ct) u d → RdC w F ct u d := by
  intro u d h
  cases ct with
  | b t => exact absurd rfl (hne t)
  | s1 e => exact h
  | s2 e => exact h
 obtain ⟨ls, hd, hvv⟩ := rowRd_sl hv hne
 simp only [D.lst.injEq] at hd
 subst hd
 simp only [List.length_map] at hhi hb
 rcases hvv with ⟨⟨ad, cap, rfl, hcap0⟩, rfl⟩ | ⟨g, off, cap, xs, rfl, hcap, hF, hc, hr⟩
 ·simp only [List.length_nil, Nat.le_zero] at hb
  subst hb;obtain rfl := Nat.le_zero.1 hab;have h1 := run_sliceBounds (P := P) (w := w) (len := 0) (cap := cap) hlo hhi (Nat.le_refl _) (Nat.zero_le _)
  cases ad with
  | none =>
   obtain rfl := hcap0 rfl;refine ⟨.slice none 0 0, ?_, back ⟨[], rfl, .inl ⟨⟨none, 0, rfl, fun _ => rfl⟩, rfl⟩⟩⟩
   simp [Instr.sliceAt, Instr.slice, run_underlying ht, h1, sizeB_run hz]
  | some ad =>
   by_cases hm : cap = 0
   ·refine ⟨.slice (some ad) 0 cap, ?_, back ⟨[], rfl, .inl ⟨⟨some ad, cap, rfl, fun h => by cases h⟩, rfl⟩⟩⟩
    subst hm;simp [Instr.sliceAt, Instr.slice, run_underlying ht, h1, sizeB_run hz]
   ·refine ⟨.slice (some (ad.add 0)) 0 cap, ?_, back ⟨[], rfl, .inl ⟨⟨some (ad.add 0), cap, rfl, fun h => by cases h⟩, rfl⟩⟩⟩
    simp [Instr.sliceAt, Instr.slice, run_underlying ht, h1, sizeB_run hz, hm]
 ·have h1 := run_sliceBounds (P := P) (w := w) (len := ls.length) (cap := cap) hlo hhi hab (Nat.le_trans hb hcap)
  have hlen : ((ls.take b).drop a).length = b - a := by simp; omega
  have hdat : ((ls.map (unflat (rowAgg ct))).take b).drop a = ((ls.take b).drop a).map (unflat (rowAgg ct)) := by simp
  by_cases hm : cap = a
  ·have hba : b = a := by omega
   refine ⟨.slice (some ⟨g, off, none⟩) (b - a) (cap - a), ?_, back ⟨(ls.take b).drop a, by rw [hdat], .inr ⟨g, off, cap - a, [], by rw [hlen], by omega, hF, by simp, ?_⟩⟩⟩
   ·subst hm
    simp [Instr.sliceAt, Instr.slice, run_underlying ht, h1, sizeB_run hz]
   ·have he : (ls.take b).drop a = [] := List.eq_nil_of_length_eq_zero (by omega)
    rw [he]
    cases ct with
    | b t => exact absurd rfl (hne t)
    | s1 e => rfl
    | s2 e => rfl
  ·refine ⟨.slice (some ⟨g, off + a * rowSz ct, none⟩) (b - a) (cap - a), ?_, back ⟨(ls.take b).drop a, by rw [hdat], .inr ⟨g, off + a * rowSz ct, cap - a, _, by rw [hlen], by omega, hF, fun j u hj => ?_, rowRd_part hab hb hr⟩⟩⟩
   ·simp [Instr.sliceAt, Instr.slice, run_underlying ht, h1, sizeB_run hz, hm, addr_add]
   ·rw [List.getElem?_drop, List.getElem?_take] at hj
    split at hj
    ·rw [Nat.add_assoc]; exact hc _ _ hj
    ·cases hj
end
section
variable {P : Program} {X : Nat → Prop} {M : Hand} {w0 w : World} {S : SS} {μ : Mu} {ρ : List D} {a : Act}
def OptR {α β : Type} (R : α → β → Prop) : Option α → Option β → Prop
 | some a, some b => R a b
 | none, none => True
 | _, _ => False
theorem lopSlice_ok {F : Nat → Prop} {hl : Nat} {t : TypeId} {l : Atom} {ct : CT} {lo hi : Option SV} {v : SV} {ps : List Push} {vx : Value} {vlo vhi : Option Value} {ds : List D} {ρ' : List D}
  (h : lopSlice P ρ.length t l ct lo hi = .ok (v, ps)) (hl' : l.get ρ = some (.lst ds)) (hx : RdC w F ct vx (.lst ds))
  (hlo : OptR (SVR w F hl μ ρ) lo vlo) (hhi : OptR (SVR w F hl μ ρ) hi vhi)
  (hp : pushAll ps ρ = some ρ') : ∃ u, (Instr.sliceAt t vx vlo vhi none).run P w = .ok u w ∧ SVR w F hl μ ρ' v u := by
 unfold lopSlice at h
 split at h
 ·rename_i e ht
  split at h
  ·rename_i sz hz
   split at h
   ·rename_i hc
    obtain ⟨rfl, hct⟩ := hc;obtain ⟨⟨b, pb⟩, h1, h2⟩ := bind_ok h
    dsimp only at h2
    obtain ⟨x, h3, h4⟩ := bind_ok h2;simp only [Except.ok.injEq, Prod.mk.injEq] at h4;obtain ⟨rfl, rfl⟩ := h4;have hA : ∃ n, x.get ρ = some (.int n) ∧ (match vlo with | some u => u = .int .i64 n | none => n = 0) := by
     split at h3
     ·simp only [Except.ok.injEq] at h3
      subst h3
      cases vlo with
      | none => exact ⟨0, rfl, rfl⟩
      | some u => exact hlo.elim
     ·rename_i y
      simp only [Except.ok.injEq] at h3;subst h3
      cases vlo with
      | none => exact hlo.elim
      | some u => obtain ⟨n, rfl, hn⟩ := rd_int hlo; exact ⟨n, hn, rfl⟩
     ·cases h3
    obtain ⟨n, hn, hvn⟩ := hA;have hB : ∃ m ρ1, pushAll pb ρ = some ρ1 ∧ b.get ρ1 = some (.int m) ∧ ρ1.length = ρ.length + pb.length ∧ (∃ σ, ρ1 = ρ ++ σ) ∧ (match vhi with | some u => u = .int .i64 m | none => m = ds.length) := by
     split at h1
     ·simp only [Except.ok.injEq, Prod.mk.injEq] at h1
      obtain ⟨rfl, rfl⟩ := h1
      cases vhi with
      | none =>
       refine ⟨ds.length, ρ ++ [.int ds.length], ?_, get_new rfl, by simp, ⟨_, rfl⟩, rfl⟩
       simp [pushAll, evs, Atom.ev_of_get hl', Prim.ev]
      | some u => exact hhi.elim
     ·rename_i y
      simp only [Except.ok.injEq, Prod.mk.injEq] at h1;obtain ⟨rfl, rfl⟩ := h1
      cases vhi with
      | none => exact hhi.elim
      | some u => obtain ⟨m, rfl, hm⟩ := rd_int hhi; exact ⟨m, ρ, rfl, hm, rfl, ⟨[], by simp⟩, rfl⟩
     ·cases h1
    obtain ⟨m, ρ1, hp1, hm, hlen1, ⟨σ, rfl⟩, hvm⟩ := hB;rw [pushAll_append, hp1] at hp;simp only [Option.bind_some] at hp;obtain ⟨d, hd, rfl⟩ := pushAll_one hp;simp only [evs, List.map_cons, List.map_nil, Atom.ev_of_get (Atom.get_append hl'), Atom.ev_of_get (Atom.get_append (σ := σ) hn), Atom.ev_of_get hm, Prim.ev] at hd;split at hd
    ·rename_i hb
     simp only [Option.some.injEq] at hd;subst hd;obtain ⟨u, hu, hr⟩ := slice_part (P := P) (w := w) (a := n.toNat) (b := m.toNat) (lo := vlo) (hi := vhi) ht hz hct hx
      (by cases vlo with
       | none => simp only at hvn ⊢; subst hvn; rfl
       | some u => simp only at hvn ⊢; rw [hvn, Int.toNat_of_nonneg hb.1])
      (by cases vhi with
       | none => simp only at hvm ⊢; subst hvm; simp
       | some u => simp only at hvm ⊢; rw [hvm, Int.toNat_of_nonneg (Int.le_trans hb.1 hb.2.1)])
      (by omega) (by omega)
     exact ⟨u, hu, _, get_new hlen1, hr⟩
    ·cases hd
   ·cases h
  ·cases h
 ·cases h
end
end Vs

namespace Vs
open Go Go.RowKit
def extFn : Ext → Array Value → Sem Value
 | .sqrt => Extern.MathSqrt.sqrt
 | .f64bits => Extern.MathFloatBits.float64bits
 | .f64frombits => Extern.MathFloatBits.float64frombits
 | .f32bits => Extern.MathFloatBits.float32bits
 | .f32frombits => Extern.MathFloatBits.float32frombits
def ExtOk (P : Program) (X : FuncId → Option Ext) : Prop :=
 ∀ f e, X f = some e → ∀ args w, (callFunc f args).run P w = ((extFn e args).run P w).andThen fun v w' => .ok (.value v) w'
section
variable {P : Program} {w : World} {F : Nat → Prop} {hl : Nat} {μ : Mu} {ρ : List D}
theorem gd_get {g : Atom} {want : Bool} {s : SV} {v : Value} (h : SVR w F hl μ ρ (.gd g want s) v) (hg : g.get ρ = some (.bool want)) : SVR w F hl μ ρ s v := h.2.1 hg
theorem ev_bool {x : Atom} {b : Bool} (h : x.ev ρ = .bool b) : x.get ρ = some (.bool b) := by
 cases x with
 | v i =>
  simp only [Atom.ev, List.getD_eq_getElem?_getD] at h;simp only [Atom.get]
  cases hi : ρ[i]? with
  | none => simp [hi] at h
  | some d => simp [hi] at h; rw [h]
 | c d => simp only [Atom.ev] at h; simp [Atom.get, h]
theorem guard_get {x : Atom} {want : Bool} (h : Guard.ok ρ (some (x, want)) = true) : x.get ρ = some (.bool want) := by
 simp only [Guard.ok] at h
 split at h
 ·rename_i b hb
  have : b = want := by simpa using h
  subst this;exact ev_bool hb
 ·cases h
theorem strip_ok {g : Guard} {s : SV} {v : Value} (hg : g.ok ρ = true) (h : SVR w F hl μ ρ s v) : SVR w F hl μ ρ (strip g s) v := by
 unfold strip
 split
 ·split
  ·rename_i i want j want' s' e
   obtain ⟨rfl, rfl⟩ := e;exact gd_get h (guard_get hg)
  ·exact h
 ·exact h
theorem getSV_ok {S : SS} {a : Act} {o : Operand} {s : SV} (h : getSV S o = .ok s) (hS : ∀ (i : Nat) s, S.slots[i]? = some s → SVR w F hl μ ρ s (a.tmps.getD i Go.undef)) : SVR w F hl μ ρ s (a.eval o) := by
 unfold getSV at h
 split at h
 ·exact hS _ _ (need_ok h)
 ·exact litSV_ok (need_ok h)
 ·simp only [Except.ok.injEq] at h
  subst h;exact ⟨#[], rfl, rfl, by intro j c u h; simp at h⟩
 ·cases h
theorem lopPick_inv {n : Nat} {c A B v : SV} {ps : List Push}
  (h : (match c, A, B with
   | .c (.s (.dat (.b .bool) x)), .c (.s (.dat (.b t) y)), .c (.s (.dat (.b t') z)) => if t = t' then .ok (bdat t (.v n), [(.pick, [x, y, z])]) else .error "pick types"
   | _, _, _ => .error "pick" : Res Loc) = .ok (v, ps)) :
  ∃ x t y z, c = .c (.s (.dat (.b .bool) x)) ∧ A = .c (.s (.dat (.b t) y)) ∧ B = .c (.s (.dat (.b t) z)) ∧ v = bdat t (.v n) ∧ ps = [(.pick, [x, y, z])] := by
 split at h
 ·split at h
  ·rename_i e
   subst e;simp only [Except.ok.injEq, Prod.mk.injEq] at h;exact ⟨_, _, _, _, rfl, rfl, rfl, h.1.symm, h.2.symm⟩
  ·cases h
 ·cases h
theorem pick_arm {c s A : SV} {x : Atom} {want : Bool} {v : Value} (hA : (match c, s with | .c (.s (.dat _ (.v i))), .gd (.v j) w' s' => if w' = want then (if i = j then s' else s) else s | _, _ => s) = A)
  (hc : c = .c (.s (.dat (.b .bool) x))) (hx : x.get ρ = some (.bool want)) (hs : SVR w F hl μ ρ s v) : SVR w F hl μ ρ A v := by
 subst hc
 rw [← hA]
 split
 ·rename_i t i j w' s' e
  simp only [SV.c.injEq, CV.s.injEq, CV0.dat.injEq] at e;obtain ⟨_, rfl⟩ := e;split
  ·rename_i hw
   subst hw;split
   ·rename_i hij
    subst hij;exact gd_get hs hx
   ·exact hs
  ·exact hs
 ·exact hs
theorem lopPick_ok {c sa sb v : SV} {ps : List Push} {vc va vb : Value} {ρ' : List D} (h : lopPick ρ.length c sa sb = .ok (v, ps)) (hc : SVR w F hl μ ρ c vc) (ha : SVR w F hl μ ρ sa va) (hb : SVR w F hl μ ρ sb vb)
  (hp : pushAll ps ρ = some ρ') : ∃ b, vc = .bool b ∧ SVR w F hl μ ρ' v (if b then va else vb) := by
 unfold lopPick at h
 dsimp only at h
 obtain ⟨x, t, y, z, rfl, hA, hB, rfl, rfl⟩ := lopPick_inv h
 obtain ⟨b, rfl, hx⟩ := rd_bool hc
 obtain ⟨d, hd, rfl⟩ := pushAll_one hp
 simp only [evs, List.map_cons, List.map_nil, Atom.ev_of_get hx, Prim.ev, Option.some.injEq] at hd
 refine ⟨b, rfl, ?_⟩
 cases b with
 | true =>
  obtain ⟨d', hy, hr⟩ := pick_arm hA rfl hx ha;simp only [if_true] at hd ⊢;rw [Atom.ev_of_get hy] at hd;subst hd;exact ⟨_, get_new rfl, hr⟩
 | false =>
  obtain ⟨d', hz, hr⟩ := pick_arm hB rfl hx hb;simp only [Bool.false_eq_true, if_false] at hd ⊢;rw [Atom.ev_of_get hz] at hd;subst hd;exact ⟨_, get_new rfl, hr⟩
theorem run_sqrt (x : Nat) : ∃ c w', (Extern.MathSqrt.sqrt #[.float .f64 x]).run P w = .ok (.float .f64 c) w' ∧ Quiet w w' ∧ canon .f64 c = fsqrt .f64 (canon .f64 x) := by
 unfold fsqrt
 rw [sqrt_canon]
 have e : Extern.MathSqrt.sqrt #[.float .f64 x] = (match FloatKind.f64.format.sqrt x with | some r => pure (.float .f64 r) | none => do pure (.float .f64 (← choose (.nanBits .f64 x x)))) := rfl
 rw [e]
 cases FloatKind.f64.format.sqrt x with
 | some r => exact ⟨r, w, rfl, Quiet.refl w, rfl⟩
 | none =>
  refine ⟨(Question.nanBits .f64 x x).cut (w.tape w.drawn (.nanBits .f64 x x)), { w with drawn := w.drawn + 1 }, ?_, Quiet.drew w, canon_nan (nanBits_cut .f64 x x _)⟩
  simp [Question.forced]
theorem lopExt_ok {e : Ext} {xs : List SV} {v : SV} {ps : List Push} {vs : List Value} {ρ' : List D} (h : lopExt ρ.length e xs = .ok (v, ps))
  (hl' : xs.length = vs.length) (hx : ∀ (j : Nat) s u, xs[j]? = some s → vs[j]? = some u → SVR w F hl μ ρ s u) (hp : pushAll ps ρ = some ρ') :
  ∃ u w', (extFn e vs.toArray).run P w = .ok u w' ∧ Quiet w w' ∧ SVR w F hl μ ρ' v u := by
 unfold lopExt at h
 split at h
 all_goals first
  | (cases h; done)
  | skip
 all_goals
  simp only [Except.ok.injEq, Prod.mk.injEq] at h;obtain ⟨rfl, rfl⟩ := h;obtain ⟨d, hd, rfl⟩ := pushAll_one hp;obtain ⟨u, rfl⟩ : ∃ u, vs = [u] := List.length_eq_one_iff.1 (by simpa using hl'.symm)
  have hu := hx 0 _ u rfl rfl
 ·obtain ⟨n, rfl, hn⟩ := rd_flt hu
  simp only [evs, List.map_cons, List.map_nil, Atom.ev_of_get hn, Prim.ev, Option.some.injEq] at hd;subst hd;obtain ⟨c, w', e, q, hc⟩ := run_sqrt (P := P) (w := w) n;exact ⟨_, w', e, q, mk_flt (by rw [hc]; exact get_new rfl)⟩
 ·obtain ⟨n, rfl, hn⟩ := rd_flt hu
  simp only [evs, List.map_cons, List.map_nil, Atom.ev_of_get hn, Prim.ev] at hd;split at hd
  ·cases hd
  ·rename_i hnan
   simp only [Option.some.injEq] at hd;subst hd;rw [isnan_canon] at hnan;refine ⟨.int .u64 n, w, rfl, Quiet.refl w, mk_int ?_⟩;rw [canon_of (by simpa using hnan)]
   exact get_new rfl
 ·obtain ⟨n, rfl, hn⟩ := rd_flt hu
  simp only [evs, List.map_cons, List.map_nil, Atom.ev_of_get hn, Prim.ev] at hd;split at hd
  ·cases hd
  ·rename_i hnan
   simp only [Option.some.injEq] at hd;subst hd;rw [isnan_canon] at hnan;refine ⟨.int .u32 n, w, rfl, Quiet.refl w, mk_int ?_⟩;rw [canon_of (by simpa using hnan)]
   exact get_new rfl
 ·obtain ⟨n, rfl, hn⟩ := rd_int hu
  simp only [evs, List.map_cons, List.map_nil, Atom.ev_of_get hn, Prim.ev, Option.some.injEq] at hd;subst hd;exact ⟨.float .f64 n.toNat, w, rfl, Quiet.refl w, mk_flt (get_new rfl)⟩
 ·obtain ⟨n, rfl, hn⟩ := rd_int hu
  simp only [evs, List.map_cons, List.map_nil, Atom.ev_of_get hn, Prim.ev, Option.some.injEq] at hd;subst hd;exact ⟨.float .f32 n.toNat, w, rfl, Quiet.refl w, mk_flt (get_new rfl)⟩
end
section
variable {P : Program} {X : Nat → Prop} {M : Hand} {w0 w : World} {S : SS} {μ : Mu} {ρ : List D} {a : Act}
theorem getSVs_ok {g : Guard} (hg : g.ok ρ = true) (hS : ∀ (i : Nat) s, S.slots[i]? = some s → SVR w (Fz X S.heap μ w) S.heap.length μ ρ s (a.tmps.getD i Go.undef)) :
  ∀ {os : List Operand} {ss : List SV}, getSVs S g os = .ok ss → ss.length = os.length ∧ ∀ (j : Nat) s u, ss[j]? = some s → (os.map a.eval)[j]? = some u → SVR w (Fz X S.heap μ w) S.heap.length μ ρ s u
 | [], ss, h => by simp only [getSVs, Except.ok.injEq] at h; subst h; simp
 | o :: os, ss, h => by
  simp only [getSVs] at h;obtain ⟨s, hs, h1⟩ := bind_ok h;obtain ⟨l, hl, h2⟩ := bind_ok h1;simp only [Except.ok.injEq] at h2;subst h2;obtain ⟨i1, i2⟩ := getSVs_ok hg hS hl;refine ⟨by simp [i1], fun j s' u hj hu => ?_⟩
  cases j with
  | zero =>
   simp only [List.getElem?_cons_zero, Option.some.injEq, List.map_cons] at hj hu;subst hj hu;exact strip_ok hg (getSV_ok hs hS)
  | succ j => simp only [List.getElem?_cons_succ, List.map_cons] at hj hu; exact i2 j s' u hj hu
theorem svParts_ok {g : Guard} (hg : g.ok ρ = true) (hS : ∀ (i : Nat) s, S.slots[i]? = some s → SVR w (Fz X S.heap μ w) S.heap.length μ ρ s (a.tmps.getD i Go.undef)) :
  ∀ {os : List (Nat × Operand)} {ss : List (Nat × SV)}, svParts S g os = .ok ss → PartsR w (Fz X S.heap μ w) S.heap.length μ ρ ss (os.map fun (i, x) => (i, a.eval x))
 | [], ss, h => by simp only [svParts, Except.ok.injEq] at h; subst h; trivial
 | (i, o) :: os, ss, h => by simp only [svParts] at h;obtain ⟨s, hs, h1⟩ := bind_ok h;obtain ⟨l, hl, h2⟩ := bind_ok h1;simp only [Except.ok.injEq] at h2;subst h2;exact ⟨rfl, strip_ok hg (getSV_ok hs hS), svParts_ok hg hS hl⟩
theorem capsOf_ok : ∀ {ss : List SV} {cs : List CV0}, capsOf ss = .ok cs → cs.length = ss.length ∧ ∀ (j : Nat) c, cs[j]? = some c → ss[j]? = some (.c (.s c))
 | [], cs, h => by simp only [capsOf, Except.ok.injEq] at h; subst h; simp
 | s :: ss, cs, h => by
  unfold capsOf at h;split at h
  ·rename_i heq; cases heq
  ·rename_i c r heq
   simp only [List.cons.injEq] at heq;obtain ⟨rfl, rfl⟩ := heq;obtain ⟨l, h1, h2⟩ := bind_ok h;simp only [Except.ok.injEq] at h2;subst h2;obtain ⟨i1, i2⟩ := capsOf_ok h1;refine ⟨by simp [i1], fun j c' hj => ?_⟩
   cases j with
   | zero => simp only [List.getElem?_cons_zero, Option.some.injEq] at hj; subst hj; rfl
   | succ j => simp only [List.getElem?_cons_succ] at hj ⊢; exact i2 j c' hj
  ·cases h
theorem lop_ok {XE : FuncId → Option Ext} {g : Guard} {o : Oper} {v : SV} {ps : List Push} {ρ' : List D} (hX : ExtOk P XE) (h : lop P XE S g o = .ok (v, ps)) (hR : R X M w0 S μ ρ a w) (hg : g.ok ρ = true)
  (hp : pushAll ps ρ = some ρ') : ∃ u w', (execOp a.eval o).run P w = .ok (.value u) w' ∧ Quiet w w' ∧ SVR w (Fz X S.heap μ w) S.heap.length μ ρ' v u := by
 have get : ∀ {x : Operand} {s : SV}, (do let a ← getSV S x; Except.ok (strip g a) : Res SV) = .ok s → SVR w (Fz X S.heap μ w) S.heap.length μ ρ s (a.eval x) := by intro x s hs;obtain ⟨s', h1, h2⟩ := bind_ok hs;simp only [Except.ok.injEq] at h2;subst h2;exact strip_ok hg (getSV_ok h1 hR.slots)
 have hn : S.n = ρ.length := hR.len.symm
 unfold lop at h
 dsimp only at h
 split at h
 ·
  rename_i x ho;obtain ⟨s, hs, h1⟩ := bind_ok h;simp only [Except.ok.injEq, Prod.mk.injEq] at h1;obtain ⟨rfl, rfl⟩ := h1;simp only [pushAll, Option.some.injEq] at hp;subst hp;exact ⟨_, w, by simp [execOp, ho], Quiet.refl w, get hs⟩
 ·rename_i x ho
  obtain ⟨s, hs, h1⟩ := bind_ok h;simp only [Except.ok.injEq, Prod.mk.injEq] at h1;obtain ⟨rfl, rfl⟩ := h1;simp only [pushAll, Option.some.injEq] at hp;subst hp;exact ⟨_, w, by simp [execOp, ho], Quiet.refl w, get hs⟩
 ·
  rename_i c x y ho;obtain ⟨sc, h1, h2⟩ := bind_ok h;obtain ⟨sx, h3, h4⟩ := bind_ok h2;obtain ⟨sy, h5, h6⟩ := bind_ok h4;rw [hn] at h6;obtain ⟨b, hb, hr⟩ := lopPick_ok h6 (get h1) (get h3) (get h5) hp;exact ⟨_, w, by simp [execOp, ho, hb, asBool], Quiet.refl w, hr⟩
 ·
  rename_i x ho;obtain ⟨s, hs, h1⟩ := bind_ok h;obtain ⟨q, hq, h2⟩ := bind_ok h1;simp only [Except.ok.injEq, Prod.mk.injEq] at h2;obtain ⟨rfl, rfl⟩ := h2;simp only [pushAll, Option.some.injEq] at hp;subst hp;obtain ⟨b, o', hv, hr⟩ := ptrAdd_ok hq (get hs);exact ⟨.pointer (some ⟨b, o', none⟩), w, by simp [execOp, ho, hv], Quiet.refl w, hr⟩
 ·
  rename_i op t x y t' ho;obtain ⟨sx, h1, h2⟩ := bind_ok h;obtain ⟨sy, h3, h4⟩ := bind_ok h2;rw [hn] at h4;obtain ⟨he, u, w', hu, q, hr⟩ := lopBin_ok (P := P) (t := t) h4 (get h1) (get h3) hp;exact ⟨u, w', by simp [execOp, ho, he, hu], q, hr w⟩
 ·
  rename_i op t x ho;obtain ⟨sx, h1, h2⟩ := bind_ok h;have hx := get h1;split at h2
  ·rename_i y
   simp only [Except.ok.injEq, Prod.mk.injEq] at h2;obtain ⟨rfl, rfl⟩ := h2;obtain ⟨b, hb, hy⟩ := rd_bool hx;obtain ⟨d, hd, rfl⟩ := pushAll_one hp;simp only [evs, List.map_cons, List.map_nil, Atom.ev_of_get hy, Prim.ev, Option.some.injEq] at hd;subst hd;exact ⟨.bool !b, w, by simp [execOp, ho, hb, Op.unary], Quiet.refl w, mk_bool (get_new hR.len)⟩
  ·rename_i k y
   simp only [Except.ok.injEq, Prod.mk.injEq] at h2;obtain ⟨rfl, rfl⟩ := h2;obtain ⟨b, hb, hy⟩ := rd_flt hx;obtain ⟨d, hd, rfl⟩ := pushAll_one hp;simp only [evs, List.map_cons, List.map_nil, Atom.ev_of_get hy, Prim.ev, Option.some.injEq] at hd;subst hd;exact ⟨.float k (Op.negFloat k b), w, by simp [execOp, ho, hb, Op.unary], Quiet.refl w, mk_flt (by rw [← canon_neg]; exact get_new hR.len)⟩
  ·rename_i k y
   simp only [Except.ok.injEq, Prod.mk.injEq] at h2;obtain ⟨rfl, rfl⟩ := h2;obtain ⟨b, hb, hy⟩ := rd_int hx;obtain ⟨d, hd, rfl⟩ := pushAll_one hp;have e0 : (Atom.c (.int 0)).ev ρ = .int 0 := rfl;simp only [evs, List.map_cons, List.map_nil, e0, Atom.ev_of_get hy, Prim.ev, iarith, Option.map_some, Option.some.injEq] at hd;subst hd;exact ⟨.int k (k.wrap (0 - b)), w, by simp [execOp, ho, hb, Op.unary, Op.intArith], Quiet.refl w, mk_int (get_new hR.len)⟩
  ·cases h2
 ·
  rename_i src dst x ho;obtain ⟨sx, h1, h2⟩ := bind_ok h;rw [hn] at h2;obtain ⟨u, w', hu, q, hr⟩ := lopConv_ok h2 (get h1) hp;exact ⟨u, w', by simp [execOp, ho, hu], q, hr w⟩
 ·
  rename_i t x ho;obtain ⟨sx, h1, h2⟩ := bind_ok h;obtain ⟨u, hu, hr⟩ := lopLoad_ok h2 hR (get h1) hp;exact ⟨u, w, by simp [execOp, ho, hu], Quiet.refl w, hr⟩
 ·rename_i s x f ho
  obtain ⟨sx, h1, h2⟩ := bind_ok h;obtain ⟨rfl, u, hu, hr⟩ := lopFieldAddr_ok h2 (get h1);simp only [pushAll, Option.some.injEq] at hp;subst hp;exact ⟨u, w, by simp [execOp, ho, hu], Quiet.refl w, hr⟩
 ·rename_i s x f ho
  obtain ⟨sx, h1, h2⟩ := bind_ok h;obtain ⟨rfl, u, hu, hr⟩ := lopField_ok h2 (get h1);simp only [pushAll, Option.some.injEq] at hp;subst hp;exact ⟨u, w, by simp [execOp, ho, hu], Quiet.refl w, hr⟩
 ·rename_i t x i ho
  obtain ⟨sx, h1, h2⟩ := bind_ok h;obtain ⟨si, h3, h4⟩ := bind_ok h2;obtain ⟨u, hu, hr⟩ := lopIndexAddr_ok h4 hR (get h1) (get h3) hp;exact ⟨u, w, by simp [execOp, ho, hu], Quiet.refl w, hr⟩
 ·rename_i t x i ho
  obtain ⟨sx, h1, h2⟩ := bind_ok h;obtain ⟨si, h3, h4⟩ := bind_ok h2;obtain ⟨rfl, u, hu, hr⟩ := lopIndex_ok h4 (get h1) (get h3);simp only [pushAll, Option.some.injEq] at hp;subst hp;exact ⟨u, w, by simp [execOp, ho, hu], Quiet.refl w, hr⟩
 ·
  rename_i t x i ho;obtain ⟨sx, h1, h2⟩ := bind_ok h;obtain ⟨si, h3, h4⟩ := bind_ok h2;obtain ⟨u, hu, hr⟩ := lopLookup_ok hR h4 (get h1) (get h3) hp;exact ⟨u, w, by simp [execOp, ho, hu], Quiet.refl w, hr⟩
 ·
  rename_i t j ho;obtain ⟨st, h1, h2⟩ := bind_ok h;split at h2
  ·rename_i vs
   obtain ⟨arr, harr, htr⟩ := get h1;split at h2
   ·rename_i ag cs hj
    obtain ⟨s, hs, h3⟩ := bind_ok h2;simp only [Except.ok.injEq, Prod.mk.injEq] at h3;obtain ⟨rfl, rfl⟩ := h3;simp only [pushAll, Option.some.injEq] at hp;subst hp;have key : ∀ {vs : List (Bool × List CV)} {us : List Value} {j : Nat}, TVR w (Fz X S.heap μ w) S.heap.length μ ρ vs us → vs[j]? = some (ag, cs) → ∃ u, us[j]? = some u ∧ PVR w (Fz X S.heap μ w) S.heap.length μ ρ ag cs u := by
     intro vs
     induction vs with
     | nil => intro us j _ h; simp at h
     | cons p vs ih =>
      intro us j ht h
      cases us with
      | nil => exact ht.elim
      | cons u us =>
       cases j with
       | zero => simp only [List.getElem?_cons_zero, Option.some.injEq] at h; subst h; exact ⟨u, rfl, ht.1⟩
       | succ j => simp only [List.getElem?_cons_succ] at h ⊢; exact ih ht.2 h
    obtain ⟨u, hu, hr⟩ := key htr hj;have hu' : arr[j]? = some u := by simpa using hu
    refine ⟨u, w, by simp [execOp, ho, harr, Instr.extract, hu'], Quiet.refl w, ?_⟩
    have hm := need_ok hs;unfold mkSV at hm
    cases ag with
    | true =>
     simp only [if_true, Option.some.injEq] at hm;subst hm;exact hr
    | false =>
     obtain ⟨c, rfl, hc⟩ := hr;simp only [Bool.false_eq_true, if_false, Option.some.injEq] at hm;subst hm;exact hc
   ·cases h2
  ·cases h2
 ·
  rename_i t parts ho;obtain ⟨sp, h1, h2⟩ := bind_ok h;have hpr := svParts_ok hg hR.slots h1;obtain ⟨rfl, u, hu, hr⟩ := lopBuild_ok (vals := parts.map fun (i, x) => (i, a.eval x)) h2 (by simpa using hpr)
  simp only [pushAll, Option.some.injEq] at hp;subst hp;exact ⟨u, w, by simp [execOp, ho, hu], Quiet.refl w, hr⟩
 ·
  rename_i args ats ho;obtain ⟨sp, h1, h2⟩ := bind_ok h;split at h2
  ·rename_i x t hat
   obtain ⟨hl, hx⟩ := getSVs_ok hg hR.slots h1
   match hargs : args.toList, hl with
   | [y], _ =>
    have hy := hx 0 x (a.eval y) rfl (by rw [hargs]; rfl)
    obtain ⟨u, hu, hr⟩ := lopLen_ok (ty := o.type) h2 hR hat hy hp;have ea : args = #[y] := by apply Array.ext'; simpa using hargs
    refine ⟨u, w, ?_, Quiet.refl w, hr⟩;subst ea;simp [execOp, ho, resolve, invoke, builtin, hu]
  ·cases h2
 ·
  rename_i f first captured ho;split at h
  ·rename_i hf
   obtain ⟨cs, h1, h2⟩ := bind_ok h;obtain ⟨l, h3, h4⟩ := bind_ok h2;simp only [Except.ok.injEq, Prod.mk.injEq] at h4;obtain ⟨rfl, rfl⟩ := h4;simp only [pushAll, Option.some.injEq] at hp;subst hp;obtain ⟨hl, hx⟩ := getSVs_ok hg hR.slots h1;obtain ⟨hl2, hc⟩ := capsOf_ok h3;have hf' : first = #[] := Array.eq_empty_of_size_eq_zero hf;subst hf';refine ⟨.func (.func f) #[] (captured.map a.eval), w, by simp [execOp, ho, Instr.makeFunc], Quiet.refl w, captured.map a.eval, rfl, by simp [hl2, hl], fun j c u hj hu => ?_⟩
   exact hx j _ u (hc j c hj) (by simpa using hu)
  ·cases h
 ·
  rename_i t x lo hi ho;obtain ⟨s, h1, h2⟩ := bind_ok h;split at h2
  ·rename_i ct l
   obtain ⟨slo, h3, h4⟩ := bind_ok h2;obtain ⟨shi, h5, h6⟩ := bind_ok h4;obtain ⟨d, hd, hr⟩ := get h1;have opt : ∀ {y : Option Operand} {so : Option SV}, (match y with | none => .ok none | some y => (do let v ← (do let a ← getSV S y; Except.ok (strip g a)); Except.ok (some v) : Res (Option SV)) : Res (Option SV)) = .ok so →
     OptR (SVR w (Fz X S.heap μ w) S.heap.length μ ρ) so (y.map a.eval) := by
    intro y so hy
    cases y with
    | none => simp only [Except.ok.injEq] at hy; subst hy; trivial
    | some y =>
     obtain ⟨v', g1, g2⟩ := bind_ok hy;simp only [Except.ok.injEq] at g2;subst g2;exact get g1
   rw [hn] at h6;have hlst : isSl ct = true := by
    unfold lopSlice at h6;split at h6
    ·split at h6
     ·split at h6
      ·rename_i hc; exact hc.2
      ·cases h6
     ·cases h6
    ·cases h6
   obtain ⟨ds, rfl⟩ : ∃ ds, d = .lst ds := by
    obtain ⟨ls, e, _⟩ := rowRd_sl hr (fun b e => by subst e; cases hlst)
    exact ⟨_, e⟩
   obtain ⟨u, hu, hv⟩ := lopSlice_ok (P := P) (vlo := lo.map a.eval) (vhi := hi.map a.eval) h6 hd hr (opt h3) (opt h5) hp;exact ⟨u, w, by simp [execOp, ho, hu], Quiet.refl w, hv⟩
  ·cases h2
 ·
  rename_i args ats ho;obtain ⟨sp, h1, h2⟩ := bind_ok h;split at h2
  ·rename_i k x k' y
   split at h2
   ·rename_i hk
    subst hk;simp only [Except.ok.injEq, Prod.mk.injEq] at h2;obtain ⟨rfl, rfl⟩ := h2;obtain ⟨hl, hx⟩ := getSVs_ok hg hR.slots h1
    match hargs : args.toList, hl with
    | [p, q], _ =>
     obtain ⟨m, em, hm⟩ := rd_int (hx 0 _ (a.eval p) rfl (by rw [hargs]; rfl))
     obtain ⟨n, en, hn'⟩ := rd_int (hx 1 _ (a.eval q) rfl (by rw [hargs]; rfl))
     obtain ⟨d, hd, rfl⟩ := pushAll_one hp;simp only [evs, List.map_cons, List.map_nil, Atom.ev_of_get hm, Atom.ev_of_get hn', Prim.ev, Option.some.injEq] at hd;subst hd;have ea : args = #[p, q] := by apply Array.ext'; simpa using hargs
     subst ea;refine ⟨.int k (min m n), w, ?_, Quiet.refl w, mk_int (by rw [hn]; exact get_new rfl)⟩
     have : (if n < m then n else m) = min m n := by rw [Int.min_def]; split <;> split <;> omega
     simp [execOp, ho, resolve, invoke, builtin, Builtin.min_, Builtin.min2, em, en, this]
   ·cases h2
  ·cases h2
 ·
  rename_i args ats ho;obtain ⟨sp, h1, h2⟩ := bind_ok h;split at h2
  ·rename_i k x k' y
   split at h2
   ·rename_i hk
    subst hk;simp only [Except.ok.injEq, Prod.mk.injEq] at h2;obtain ⟨rfl, rfl⟩ := h2;obtain ⟨hl, hx⟩ := getSVs_ok hg hR.slots h1
    match hargs : args.toList, hl with
    | [p, q], _ =>
     obtain ⟨m, em, hm⟩ := rd_int (hx 0 _ (a.eval p) rfl (by rw [hargs]; rfl))
     obtain ⟨n, en, hn'⟩ := rd_int (hx 1 _ (a.eval q) rfl (by rw [hargs]; rfl))
     obtain ⟨d, hd, rfl⟩ := pushAll_one hp;simp only [evs, List.map_cons, List.map_nil, Atom.ev_of_get hm, Atom.ev_of_get hn', Prim.ev, Option.some.injEq] at hd;subst hd;have ea : args = #[p, q] := by apply Array.ext'; simpa using hargs
     subst ea;refine ⟨.int k (max m n), w, ?_, Quiet.refl w, mk_int (by rw [hn]; exact get_new rfl)⟩
     have : (if n > m then n else m) = max m n := by rw [Int.max_def]; split <;> split <;> omega
     simp [execOp, ho, resolve, invoke, builtin, Builtin.max_, Builtin.max2, em, en, this]
   ·cases h2
  ·rename_i k x k' y
   split at h2
   ·rename_i hk
    subst hk;simp only [Except.ok.injEq, Prod.mk.injEq] at h2;obtain ⟨rfl, rfl⟩ := h2;obtain ⟨hl, hx⟩ := getSVs_ok hg hR.slots h1
    match hargs : args.toList, hl with
    | [p, q], _ =>
     obtain ⟨m, em, hm⟩ := rd_flt (hx 0 _ (a.eval p) rfl (by rw [hargs]; rfl))
     obtain ⟨n, en, hn'⟩ := rd_flt (hx 1 _ (a.eval q) rfl (by rw [hargs]; rfl))
     obtain ⟨d, hd, rfl⟩ := pushAll_one hp;simp only [evs, List.map_cons, List.map_nil, Atom.ev_of_get hm, Atom.ev_of_get hn', Prim.ev] at hd;have ea : args = #[p, q] := by apply Array.ext'; simpa using hargs
     subst ea;rw [order_canon] at hd
     cases ho2 : k.format.order m n with
     | none => rw [ho2] at hd; cases hd
     | some c =>
      obtain ⟨n1, n2⟩ := order_some ho2;rw [ho2, canon_of n1, canon_of n2] at hd
      cases c <;> simp only [Option.some.injEq] at hd <;> subst hd
      ·refine ⟨.float k n, w, ?_, Quiet.refl w, mk_flt (by rw [hn, canon_of n2]; exact get_new rfl)⟩
       simp [execOp, ho, resolve, invoke, builtin, Builtin.max_, Builtin.max2, em, en, ho2]
      ·refine ⟨.float k (if (k.decode m).neg then n else m), w, ?_, Quiet.refl w, mk_flt (by rw [hn, canon_of (by split <;> assumption)]; exact get_new rfl)⟩
       simp [execOp, ho, resolve, invoke, builtin, Builtin.max_, Builtin.max2, em, en, ho2]
      ·refine ⟨.float k m, w, ?_, Quiet.refl w, mk_flt (by rw [hn, canon_of n1]; exact get_new rfl)⟩
       simp [execOp, ho, resolve, invoke, builtin, Builtin.max_, Builtin.max2, em, en, ho2]
   ·cases h2
  ·cases h2
 ·
  rename_i f args ats ho;split at h
  ·rename_i e he
   obtain ⟨sp, h1, h2⟩ := bind_ok h;obtain ⟨hl, hx⟩ := getSVs_ok hg hR.slots h1;rw [hn] at h2;obtain ⟨u, w', hu, q, hr⟩ := lopExt_ok (P := P) (w := w) (vs := args.toList.map a.eval) h2 (by simpa using hl) hx hp
   refine ⟨u, w', ?_, q, hr⟩;have e1 : execOp a.eval o = callFunc f (#[] ++ args.map a.eval ++ #[]) := by obtain ⟨dst, op, ty, pos, after, guard⟩ := o;simp only at ho;subst ho;rfl
   rw [e1, hX f e he];have e2 : (#[] ++ args.map a.eval ++ #[] : Array Value) = (args.toList.map a.eval).toArray := by apply Array.ext'; simp
   rw [e2, hu];rfl
  ·cases h
 ·cases h
end
end Vs

namespace Vs
open Go Go.RowKit
def OwnK (w : World) (F : Nat → Prop) : MK → MV → D → Prop
 | .row t e, m, d => m.hist = [] ∧ ∃ n xs ls, w.ownsRow 0 e (rowSz t) m.v n xs ∧ d = .lst (ls.map (unflat (rowAgg t))) ∧ ls.length = n ∧ rowRd w F t xs ls
 | .rows et e' e, m, d => m.hist.length = 1 ∧ ∃ n ls, w.ownsRow 0 e 1 m.v n m.inner ∧ d = rowsDat et.agg ls ∧ ls.length = n ∧ RowsD w et e' m.inner ls ∧
   Apart m.inner ∧ ∀ u ∈ m.inner, ∀ b, blkOf u = some b → blkOf m.v ≠ some b
 | .map mk, m, d => m.hist.length = 1 ∧ MapB w mk m d none
 | .box ts, m, d => m.hist = [] ∧ ∃ b arr T ds, m.v = .pointer (some ⟨b, 0, none⟩) ∧ w.heap[b]? = some (.cells arr T (0, 0)) ∧ d = .agg ds ∧ RdCs (RdC w F) ts arr.toList ds
def MK.sl : MK → Bool | .map _ => false | .box _ => false | _ => true
def MK.arg : MK → Bool | .map _ => false | _ => true
structure HM where
 m : MV
 k : MK
 keep : Bool
def ArgC (w : World) (F : Nat → Prop) : PC → Value → D → List HM → Prop
 | .rd t, v, d, ms => ms = [] ∧ RdC w F t v d
 | .mt k keep, v, d, ms => ∃ m, ms = [⟨m, k, keep⟩] ∧ m.v = v ∧ OwnK w F k m d ∧ k.arg = true
def ArgCs (w : World) (F : Nat → Prop) : List PC → List Value → List D → List HM → Prop
 | [], [], ds, ms => ds = [] ∧ ms = []
 | t :: ts, v :: vs, ds, ms => ∃ d d2 m1 m2, ds = d :: d2 ∧ ms = m1 ++ m2 ∧ ArgC w F t v d m1 ∧ ArgCs w F ts vs d2 m2
 | _, _, _, _ => False
def PtrR (w : World) (F : Nat → Prop) (ts : List PC) (v : Value) (ds : List D) (ms : List HM) : Prop :=
 ∃ b o vs, v = .pointer (some ⟨b, o, none⟩) ∧ F b ∧ (∀ (j : Nat) u, vs[j]? = some u → w.cell? ⟨b, o + j, none⟩ = some u) ∧ ArgCs w F ts vs ds ms
def CapsR (w : World) (F : Nat → Prop) : List (List PC) → List Value → List D → List HM → Prop
 | [], [], ds, ms => ds = [] ∧ ms = []
 | ts :: tss, v :: vs, ds, ms => ∃ d1 d2 m1 m2, ds = d1 ++ d2 ∧ ms = m1 ++ m2 ∧ PtrR w F ts v d1 m1 ∧ CapsR w F tss vs d2 m2
 | _, _, _, _ => False
def ArgR (w : World) (F : Nat → Prop) : PK → Value → List D → List HM → Prop
 | .val true ts, v, ds, ms => ∃ arr : Array Value, v = .agg arr ∧ ArgCs w F ts arr.toList ds ms
 | .val false ts, v, ds, ms => ArgCs w F ts [v] ds ms
 | .ptr ts, v, ds, ms => PtrR w F ts v ds ms
 | .fn f caps, v, ds, ms => ∃ cs : Array Value, v = .func (.func f) #[] cs ∧ CapsR w F caps cs.toList ds ms
def ArgsR (w : World) (F : Nat → Prop) : List PK → List Value → List D → List HM → Prop
 | [], [], ds, ms => ds = [] ∧ ms = []
 | p :: ps, v :: vs, ds, ms => ∃ d1 d2 m1 m2, ds = d1 ++ d2 ∧ ms = m1 ++ m2 ∧ ArgR w F p v d1 m1 ∧ ArgsR w F ps vs d2 m2
 | _, _, _, _ => False
def MApart (ms : List MV) : Prop := ∀ (i j : Nat) m m', ms[i]? = some m → ms[j]? = some m' → i ≠ j → ∀ b, m.own b → ¬ m'.own b
def Fm (w : World) (ms : List HM) (b : Nat) : Prop := b < w.heap.size ∧ ∀ h ∈ ms, ¬ h.m.own b
def ResCs (w : World) (F : Nat → Prop) : List RK → List Value → List D → List MV → Prop
 | [], [], [], [] => True
 | .cell t :: rs, v :: vs, d :: ds, os => RdB t v d ∧ ResCs w F rs vs ds os
 | .own k :: rs, v :: vs, d :: ds, o :: os => o.v = v ∧ OwnK w F k o d ∧ ResCs w F rs vs ds os
 | _, _, _, _ => False
def PRes (w : World) (F : Nat → Prop) (agg : Bool) (rs : List RK) (v : Value) (ds : List D) (os : List MV) : Prop :=
 match agg with
 | true => ∃ arr : Array Value, v = .agg arr ∧ ResCs w F rs arr.toList ds os
 | false => rs.length = 1 ∧ ResCs w F rs [v] ds os
def ResAll (w : World) (F : Nat → Prop) : List (Bool × List RK) → List Value → List D → List MV → Prop
 | [], [], ds, os => ds = [] ∧ os = []
 | (ag, rs) :: r, v :: vs, ds, os => ∃ d1 d2 o1 o2, ds = d1 ++ d2 ∧ os = o1 ++ o2 ∧ PRes w F ag rs v d1 o1 ∧ ResAll w F r vs d2 o2
 | _, _, _, _ => False
def KeptR (w : World) (F : Nat → Prop) : List HM → List D → List MV → Prop
 | [], ds, ks => ds = [] ∧ ks = []
 | h :: hs, ds, ks => if h.keep = true then ∃ d d2 k k2, ds = d :: d2 ∧ ks = k :: k2 ∧ k.v = h.m.v ∧ OwnK w F h.k k d ∧ KeptR w F hs d2 k2 else KeptR w F hs ds ks
def Fres (base : Nat) (F0 : Nat → Prop) (w : World) (ms : List HM) (os : List MV) (b : Nat) : Prop := (base ≤ b ∨ (∃ h ∈ ms, h.m.own b) ∨ F0 b) ∧ b < w.heap.size ∧ ∀ u ∈ os, ¬ u.own b
def ResR (base : Nat) (F0 : Nat → Prop) (w : World) (ms : List HM) (rs : List (Bool × List RK)) (v : Value) (ds : List D) : Prop :=
 ∃ vs os ks d1 d2, (if rs.length = 1 then vs = [v] else v = .tuple vs.toArray) ∧ ds = d1 ++ d2 ∧ ResAll w (Fres base F0 w ms (os ++ ks)) rs vs d1 os ∧ KeptR w (Fres base F0 w ms (os ++ ks)) ms d2 ks ∧
  (∀ u ∈ os ++ ks, ∀ b, u.own b → base ≤ b ∨ ∃ h ∈ ms, h.m.own b) ∧ MApart (os ++ ks)
structure SoundCall (P : Program) (f : FuncId) (sg : Sig) (G : List D → Option (List D)) : Prop where
 enter : ∀ args w, (callFunc f args).run P w = .ok (.enter f args) w
 calls : ∀ vs ds ms (w : World) rs (F0 : Nat → Prop), (∀ b, F0 b → Fm w ms b) → ArgsR w F0 sg.params vs ds ms → MApart (ms.map HM.m) → G ds = some rs →
  Calls P f vs.toArray w fun e w' => ∃ v, e = .returned v ∧ Keeps (fun b => ∃ h ∈ ms, h.m.own b) w w' ∧ ResR w.heap.size F0 w' ms sg.results v rs
section
variable {w w' : World} {F F' : Nat → Prop}
theorem ownsRow_lt' {e : TypeId} {sz n b : Nat} {v : Value} {xs : List Value} (h : w.ownsRow 0 e sz v n xs) (hb : blkOf v = some b) : b < w.heap.size := by
 rcases h.2 with ⟨rfl, _⟩ | ⟨g, cap, cur, rfl, _, e3, _⟩
 ·cases hb
 ·simp only [blkOf, Option.some.injEq] at hb
  subst hb;exact (Array.getElem?_eq_some_iff.1 e3).1
theorem RdB_blk {t : BT} {v : Value} {d : D} (h : RdB t v d) : blkOf v = none := by
 cases t <;> (obtain ⟨n, rfl, _⟩ := h; rfl)
theorem ValR_lt {t : MT} {v : Value} {d : D} {b : Nat} (h : ValR w t v d) (hb : blkOf v = some b) : b < w.heap.size := by
 cases t with
 | b t => rw [RdB_blk h] at hb; cases hb
 | s et e => obtain ⟨n, xs, l, h1, _⟩ := h; exact ownsRow_lt' h1 hb
theorem MapR.at {m : MPK} {es : List MapEntry} {kvs : List (List Int × D)} {us : List Value} {hk : Option Nat} (h : MapR w m es kvs us hk) {j : Nat} (hj : j < kvs.length) :
  ∃ e kv u, es[j]? = some e ∧ kvs[j]? = some kv ∧ us[j]? = some u :=
 ⟨_, _, _, List.getElem?_eq_getElem (by rw [h.len]; exact hj), List.getElem?_eq_getElem hj, List.getElem?_eq_getElem (by rw [h.ulen]; exact hj)⟩
theorem MapR.inner {m : MPK} {es : List MapEntry} {kvs : List (List Int × D)} {us : List Value} {hk : Option Nat} (h : MapR w m es kvs us hk) {u : Value} (hu : u ∈ us) {b : Nat} (hb : blkOf u = some b) :
  ∃ (j : Nat) (e : MapEntry) (kv : List Int × D), es[j]? = some e ∧ kvs[j]? = some kv ∧ us[j]? = some u ∧ u = e.val ∧ ValR w m.v u kv.2 := by
 obtain ⟨j, hj⟩ := List.getElem?_of_mem hu
 obtain ⟨e, kv, u', h1, h2, h3⟩ := h.at (j := j) (by rw [← h.ulen]; exact (List.getElem?_eq_some_iff.1 hj).1)
 rw [hj] at h3
 cases h3
 obtain ⟨_, _, h4, h5⟩ := h.ent j e kv u h1 h2 hj
 by_cases hc : hk = some j
 ·rw [h4 hc] at hb; cases hb
 ·obtain ⟨h6, h7⟩ := h5 hc
  exact ⟨j, e, kv, h1, h2, hj, h6, h7⟩
theorem MapB.lt {mk : MPK} {m : MV} {d : D} {hk : Option Nat} (h : MapB w mk m d hk) {b : Nat} (hb : m.own b) : b < w.heap.size := by
 obtain ⟨g, es, kvs, h1, h2, _, h3, _⟩ := h
 rcases hb with hb | ⟨u, hu, hb⟩
 ·rw [h1] at hb
  simp only [blkOf, Option.some.injEq] at hb;subst hb;exact (Array.getElem?_eq_some_iff.1 h2).1
 ·obtain ⟨_, _, _, _, _, _, _, h7⟩ := h3.inner hu hb
  exact ValR_lt h7 hb
theorem OwnK.lt {k : MK} {m : MV} {d : D} (h : OwnK w F k m d) {b : Nat} (hb : m.own b) : b < w.heap.size := by
 have row : ∀ {e sz n : Nat} {v : Value} {xs : List Value}, w.ownsRow 0 e sz v n xs → blkOf v = some b → b < w.heap.size := by
  intro e sz n v xs h hb
  rcases h.2 with ⟨rfl, _⟩ | ⟨g, cap, cur, rfl, _, e3, _⟩
  ·cases hb
  ·simp only [blkOf, Option.some.injEq] at hb
   subst hb;exact (Array.getElem?_eq_some_iff.1 e3).1
 cases k with
 | row t e =>
  obtain ⟨h0, n, xs, ls, h1, _⟩ := h;exact row h1 ((MV.own_flat h0).1 hb)
 | rows et e' e =>
  obtain ⟨h0, n, ls, h1, _, hn, ⟨h2, h3⟩, _⟩ := h
  rcases hb with hb | ⟨u, hu, hb⟩
  ·exact row h1 hb
  ·obtain ⟨i, hi⟩ := List.getElem?_of_mem hu
   have hlt : i < ls.length := by rw [← h2]; exact (List.getElem?_eq_some_iff.1 hi).1
   obtain ⟨k, xs, hk, _⟩ := h3 i u _ hi (List.getElem?_eq_getElem hlt);exact row hk hb
 | map mk => exact MapB.lt h.2 hb
 | box ts =>
  obtain ⟨h0, b', arr, T, ds, h1, h3, _⟩ := h;have := (MV.own_flat h0).1 hb;rw [h1] at this;simp only [blkOf, Option.some.injEq] at this;subst this;exact (Array.getElem?_eq_some_iff.1 h3).1
theorem ownsRow_kept {e sz n : Nat} {v : Value} {xs : List Value} (h : w.ownsRow 0 e sz v n xs) (hb : ∀ b, blkOf v = some b → w'.heap[b]? = w.heap[b]?) : w'.ownsRow 0 e sz v n xs := by
 refine ⟨h.1, ?_⟩
 rcases h.2 with hn | ⟨g, cap, cur, e1, e2, e3, e4⟩
 ·exact .inl hn
 ·refine .inr ⟨g, cap, cur, e1, e2, ?_, e4⟩
  rw [hb g (by rw [e1]; rfl)]
  exact e3
theorem RowsD.kept {et : ET} {e' : TypeId} {us : List Value} {ls : List (List (List D))} (h : RowsD w et e' us ls) (hb : ∀ u ∈ us, ∀ b, blkOf u = some b → w'.heap[b]? = w.heap[b]?) : RowsD w' et e' us ls := by
 refine ⟨h.1, fun i u l hi hl => ?_⟩
 obtain ⟨n, xs, h1, h2⟩ := h.2 i u l hi hl
 exact ⟨n, xs, ownsRow_kept h1 (hb u (List.mem_of_getElem? hi)), h2⟩
theorem ValR.kept {t : MT} {v : Value} {d : D} (h : ValR w t v d) (hb : ∀ b, blkOf v = some b → w'.heap[b]? = w.heap[b]?) : ValR w' t v d := by
 cases t with
 | b t => exact h
 | s et e => obtain ⟨n, xs, l, h1, h2⟩ := h; exact ⟨n, xs, l, ownsRow_kept h1 hb, h2⟩
theorem MapR.kept {m : MPK} {es : List MapEntry} {kvs : List (List Int × D)} {us : List Value} {hk : Option Nat} (h : MapR w m es kvs us hk) (hb : ∀ u ∈ us, ∀ b, blkOf u = some b → w'.heap[b]? = w.heap[b]?) : MapR w' m es kvs us hk :=
 ⟨h.len, h.ulen, h.nodup, h.key, fun j e kv u h1 h2 h3 => by
  obtain ⟨g1, g2, g3, g4⟩ := h.ent j e kv u h1 h2 h3
  exact ⟨g1, g2, g3, fun hc => ⟨(g4 hc).1, (g4 hc).2.kept (hb u (List.mem_of_getElem? h3))⟩⟩⟩
theorem MapB.kept {mk : MPK} {m : MV} {d : D} {hk : Option Nat} (h : MapB w mk m d hk) (hb : ∀ b, m.own b → w'.heap[b]? = w.heap[b]?) : MapB w' mk m d hk := by
 obtain ⟨g, es, kvs, h1, h2, h3, h4, h5⟩ := h
 exact ⟨g, es, kvs, h1, by rw [hb g (.inl (by rw [h1]; rfl))]; exact h2, h3, h4.kept fun u hu b hbb => hb b (.inr ⟨u, hu, hbb⟩), h5⟩
end
section
variable {P : Program} {X : Nat → Prop} {M : Hand} {w0 w w' : World} {S : SS} {μ μ' : Mu} {ρ : List D} {a : Act}
theorem live_lt {h : List SB} {β : Nat} (hl : live h β) : β < h.length := by
 obtain ⟨sb, hs, _⟩ := hl
 rcases Nat.lt_or_ge β h.length with h' | h'
 ·exact h'
 ·rw [List.getElem?_eq_none h'] at hs; cases hs
theorem Grows.same {F F' : Nat → Prop} {hl hl' : Nat} {ρ ρ' : List D} (hs : Stays F F' w w') (he : ∃ σ, ρ' = ρ ++ σ) (hle : hl ≤ hl') (hμ : ∀ β, β < hl → μ' β = μ β) : Grows F F' hl hl' μ μ' ρ ρ' w w' :=
 ⟨hs, he, hle, fun β hb => by rw [hμ β hb]; exact ⟨rfl, [], by simp⟩⟩
theorem HoleR.mono {F F' : Nat → Prop} {hl hl' : Nat} {ρ ρ' : List D} (hg : Grows F F' hl hl' μ μ' ρ ρ' w w') {hole : Option Atom} {hk : Option Nat} (h : HoleR ρ hole hk) : HoleR ρ' hole hk := by
 cases hole <;> cases hk <;> first | exact h | exact hg.get h
theorem BlkR.grow {Mine : Nat → Prop} {F F' : Nat → Prop} {hl hl' : Nat} {ρ ρ' : List D} {sb : SB} {m : MV} (hg : Grows F F' hl hl' μ μ' ρ ρ' w w') (hsz : w.heap.size ≤ w'.heap.size) (hb : ∀ b, m.own b → w'.heap[b]? = w.heap[b]?)
  (h : BlkR Mine w F hl μ ρ sb m) : BlkR Mine w' F' hl' μ' ρ' sb m := by
 cases sb with
 | dead => trivial
 | hid => exact fun b hb' => Nat.lt_of_lt_of_le (h b hb') hsz
 | var cs =>
  obtain ⟨h0, b, arr, T, h1, h2, h3, h4⟩ := h;refine ⟨h0, b, arr, T, h1, h2, ?_, h4.mono hg⟩;rw [hb b (.inl (by rw [h1]; rfl))]
  exact h3
 | row t e x =>
  obtain ⟨h0, n, xs, ls, h1, h2, h3, h4, h5⟩ := h;exact ⟨h0, n, xs, ls, ownsRow_kept h1 fun b hbb => hb b (.inl hbb), h2, hg.get h3, h4, h5.mono hg.stays⟩
 | rows et e' e ver x =>
  obtain ⟨h0, n, ls, h1, h2, h3, h4, h5, h6⟩ := h;exact ⟨h0, n, ls, ownsRow_kept h1 fun b hbb => hb b (.inl hbb), h2, hg.get h3, h4, h5.kept fun u hu b hbb => hb b (.inr ⟨u, hu, hbb⟩), h6⟩
 | map mk ver x hole =>
  obtain ⟨h0, h1, d, hk, h2, h3, h4⟩ := h;exact ⟨h0, h1, d, hk, hg.get h2, h3.mono hg, h4.kept hb⟩
 | bx ts x =>
  obtain ⟨h0, b, arr, T, ds, h1, h2, h3, h4, h5⟩ := h;refine ⟨h0, b, arr, T, ds, h1, h2, ?_, hg.get h4, h5.mono fun t v d hd => hd.mono hg.stays⟩
  rw [hb b (.inl (by rw [h1]; rfl))]
  exact h3
 | mapz mk x =>
  obtain ⟨h0, b, es, l, bt, z, h1, h2, h3, h4, h5, h6⟩ := h;exact ⟨fun c hc => Nat.lt_of_lt_of_le (h0 c hc) hsz, b, es, l, bt, z, h1, h2, h3, by rw [hb b (.inl (by rw [h3]; rfl))]; exact h4, hg.get h5, h6⟩
theorem R_env (h : R X M w0 S μ ρ a w) (σ : List D) : R X M w0 { S with n := S.n + σ.length } μ (ρ ++ σ) a w := by
 have hg : Grows (Fz X S.heap μ w) (Fz X S.heap μ w) S.heap.length S.heap.length μ μ ρ (ρ ++ σ) w w := Grows.same ⟨fun _ h => h, fun _ _ => rfl⟩ ⟨σ, rfl⟩ (Nat.le_refl _) fun _ _ => rfl
 exact ⟨h.keeps, by simp [h.len], h.size, h.defers, fun i s hs => (h.slots i s hs).mono hg, fun β sb hb => (h.blocks β sb hb).grow hg (Nat.le_refl _) (fun _ _ => rfl), h.ex, h.inj, h.exo, h.anc⟩
theorem ownsRow_lt {e sz n : Nat} {v : Value} {xs : List Value} (h : w.ownsRow 0 e sz v n xs) {b : Nat} (hb : blkOf v = some b) : b < w.heap.size := by
 rcases h.2 with ⟨rfl, _⟩ | ⟨g, cap, cur, rfl, _, e3, _⟩
 ·cases hb
 ·simp only [blkOf, Option.some.injEq] at hb
  subst hb;exact (Array.getElem?_eq_some_iff.1 e3).1
theorem BlkR.lt {Mine F : Nat → Prop} {hl : Nat} {sb : SB} {m : MV} (h : BlkR Mine w F hl μ ρ sb m) (hd : sb ≠ .dead) {b : Nat} (hb : m.own b) : b < w.heap.size := by
 cases sb with
 | dead => exact absurd rfl hd
 | hid => exact h b hb
 | var cs =>
  obtain ⟨h0, b', arr, T, h1, _, h3, _⟩ := h;have := (MV.own_flat h0).1 hb;rw [h1] at this;simp only [blkOf, Option.some.injEq] at this;subst this;exact (Array.getElem?_eq_some_iff.1 h3).1
 | row t e x =>
  obtain ⟨h0, n, xs, ls, h1, _⟩ := h;exact ownsRow_lt h1 ((MV.own_flat h0).1 hb)
 | rows et e' e ver x =>
  obtain ⟨h0, n, ls, h1, _, _, _, ⟨h2, h3⟩, _⟩ := h
  rcases hb with hb | ⟨u, hu, hb⟩
  ·exact ownsRow_lt h1 hb
  ·obtain ⟨i, hi⟩ := List.getElem?_of_mem hu
   have hlt : i < ls.length := by rw [← h2]; exact (List.getElem?_eq_some_iff.1 hi).1
   obtain ⟨k, xs, hk, _⟩ := h3 i u _ hi (List.getElem?_eq_getElem hlt);exact ownsRow_lt hk hb
 | map mk ver x hole => obtain ⟨_, _, _, _, _, _, h4⟩ := h; exact h4.lt hb
 | bx ts x =>
  obtain ⟨h0, b', arr, T, ds, h1, _, h3, _⟩ := h;have := (MV.own_flat h0).1 hb;rw [h1] at this;simp only [blkOf, Option.some.injEq] at this;subst this;exact (Array.getElem?_eq_some_iff.1 h3).1
 | mapz mk x => exact h.1 b hb
theorem R.own_lt (h : R X M w0 S μ ρ a w) {β : Nat} (hl : live S.heap β) {b : Nat} (hb : (μ β).own b) : b < w.heap.size := by
 obtain ⟨sb, hs, hd⟩ := hl
 exact (h.blocks β sb hs).lt hd hb
def mineB : SB → Bool | .var _ => true | .row _ _ _ => true | .rows _ _ _ _ _ => true | .map _ _ _ _ => true | .bx _ _ => true | _ => false
theorem R.mine (h : R X M w0 S μ ρ a w) {β : Nat} {sb : SB} (hs : S.heap[β]? = some sb) (hm : mineB sb = true) {b : Nat} (hb : (μ β).own b) : w0.heap.size ≤ b ∨ M b := by
 have := h.blocks β sb hs
 cases sb with
 | dead => cases hm
 | hid => cases hm
 | var cs =>
  obtain ⟨h0, b', arr, T, h1, h2, _⟩ := this;have e := (MV.own_flat h0).1 hb;rw [h1] at e;simp only [blkOf, Option.some.injEq] at e;subst e;exact h2
 | row t e x => obtain ⟨_, n, xs, ls, _, h2, _⟩ := this; exact h2 b hb
 | rows et e' e ver x => obtain ⟨_, n, ls, _, h2, _⟩ := this; exact h2 b hb
 | map mk ver x hole => obtain ⟨_, h2, _⟩ := this; exact h2 b hb
 | bx ts x =>
  obtain ⟨h0, b', arr, T, ds, h1, h2, _⟩ := this;have e := (MV.own_flat h0).1 hb;rw [h1] at e;simp only [blkOf, Option.some.injEq] at e;subst e;exact h2
 | mapz mk x => cases hm
structure Move (S : SS) (μ : Mu) (w : World) (T : List Nat) (heap' : List SB) (μ' : Mu) (w' : World) : Prop where
 tlive : ∀ γ, γ ∈ T → ∃ sb, S.heap[γ]? = some sb ∧ mineB sb = true
 len : S.heap.length ≤ heap'.length
 same : ∀ β, β < S.heap.length → β ∉ T → heap'[β]? = S.heap[β]? ∧ μ' β = μ β
 mu : ∀ β, β < S.heap.length → (μ' β).v = (μ β).v ∧ ∃ ext, (μ' β).hist = (μ β).hist ++ ext
 os : w'.os = w.os
 tape : w'.tape = w.tape
 output : w'.output = w.output
 size : w.heap.size ≤ w'.heap.size
 blk : ∀ b, b < w.heap.size → (∀ γ, γ ∈ T → ¬ (μ γ).own b) → w'.heap[b]? = w.heap[b]?
 own : ∀ β, live heap' β → (β ∈ T ∨ S.heap.length ≤ β) → ∀ b, (μ' β).own b → w.heap.size ≤ b ∨ ∃ γ, γ ∈ T ∧ (μ γ).own b
 inj : ∀ β γ, live heap' β → live heap' γ → (β ∈ T ∨ S.heap.length ≤ β) → (γ ∈ T ∨ S.heap.length ≤ γ) → β ≠ γ → ∀ b, (μ' β).own b → ¬ (μ' γ).own b
theorem Move.liveOld {T : List Nat} {heap' : List SB} (m : Move S μ w T heap' μ' w') {γ : Nat} (h : γ ∈ T) : live S.heap γ := by
 obtain ⟨sb, hs, hm⟩ := m.tlive γ h
 exact ⟨sb, hs, fun e => by subst e; cases hm⟩
theorem Move.untouched {T : List Nat} {heap' : List SB} (m : Move S μ w T heap' μ' w') {β : Nat} (hl : live heap' β) (h : ¬ (β ∈ T ∨ S.heap.length ≤ β)) : live S.heap β ∧ μ' β = μ β := by
 have h1 : β ∉ T := fun e => h (.inl e)
 have h2 : β < S.heap.length := Nat.lt_of_not_le fun e => h (.inr e)
 obtain ⟨e1, e2⟩ := m.same β h2 h1
 obtain ⟨sb, hs, hd⟩ := hl
 exact ⟨⟨sb, by rw [← e1]; exact hs, hd⟩, e2⟩
theorem Move.grows {T : List Nat} {heap' : List SB} (m : Move S μ w T heap' μ' w') : Grows (Fz X S.heap μ w) (Fz X heap' μ' w') S.heap.length heap'.length μ μ' ρ ρ w w' := by
 refine ⟨⟨fun b hb => ⟨⟨Nat.lt_of_lt_of_le hb.1.1 m.size, hb.1.2⟩, fun β hl ho => ?_⟩, fun b hb => m.blk b hb.1.1 fun γ hγ => hb.2 γ (m.liveOld hγ)⟩, ⟨[], by simp⟩, m.len, m.mu⟩
 by_cases h : β ∈ T ∨ S.heap.length ≤ β
 ·rcases m.own β hl h b ho with h1 | ⟨γ, h1, h2⟩
  ·have := hb.1.1; omega
  ·exact hb.2 γ (m.liveOld h1) h2
 ·obtain ⟨h1, h2⟩ := m.untouched hl h
  rw [h2] at ho;exact hb.2 β h1 ho
theorem R_move (h : R X M w0 S μ ρ a w) {T : List Nat} {heap' : List SB} (m : Move S μ w T heap' μ' w') (hdr : w.drawn ≤ w'.drawn)
  (hnew : Grows (Fz X S.heap μ w) (Fz X heap' μ' w') S.heap.length heap'.length μ μ' ρ ρ w w' → ∀ β sb, heap'[β]? = some sb → (β ∈ T ∨ S.heap.length ≤ β) → BlkR (fun b => w0.heap.size ≤ b ∨ M b) w' (Fz X heap' μ' w') heap'.length μ' ρ sb (μ' β)) :
  R X M w0 { S with heap := heap' } μ' ρ a w' := by
 have hg := m.grows (X := X) (ρ := ρ)
 refine ⟨⟨m.os.trans h.keeps.os, m.tape.trans h.keeps.tape, m.output.trans h.keeps.output, Nat.le_trans h.keeps.size m.size, fun k hk hm => ?_, Nat.le_trans h.keeps.drawn hdr⟩, h.len, h.size, h.defers, fun i s hs => (h.slots i s hs).mono hg, fun β sb hb => ?_,
  fun b hb => Nat.lt_of_lt_of_le (h.ex b hb) m.size, fun β γ hβ hγ hne b hb => ?_, fun β hβ b hb hx => ?_, fun β v hv => ⟨Nat.lt_of_lt_of_le (h.anc β v hv).1 m.len, (m.mu β (h.anc β v hv).1).1.trans (h.anc β v hv).2⟩⟩
 ·rw [m.blk k (Nat.lt_of_lt_of_le hk h.keeps.size) fun γ hγ ho => ?_]
  ·exact h.keeps.block k hk hm
  ·obtain ⟨sb, hs, hms⟩ := m.tlive γ hγ
   rcases h.mine hs hms ho with h' | h'
   ·omega
   ·exact hm h'
 ·by_cases ht : β ∈ T ∨ S.heap.length ≤ β
  ·exact hnew hg β sb hb ht
  ·have h1 : β ∉ T := fun e => ht (.inl e)
   have h2 : β < S.heap.length := Nat.lt_of_not_le fun e => ht (.inr e)
   obtain ⟨e1, e2⟩ := m.same β h2 h1;have hb' : S.heap[β]? = some sb := by rw [← e1]; exact hb
   rw [e2]
   by_cases hd : sb = .dead
   ·subst hd; trivial
   ·refine (h.blocks β sb hb').grow hg m.size fun b ho => m.blk b (h.own_lt ⟨sb, hb', hd⟩ ho) fun γ hγ ho' => ?_
    exact h.inj β γ ⟨sb, hb', hd⟩ (m.liveOld hγ) (fun e => h1 (by rw [e]; exact hγ)) b ho ho'
 ·by_cases h1 : β ∈ T ∨ S.heap.length ≤ β
  ·by_cases h2 : γ ∈ T ∨ S.heap.length ≤ γ
   ·exact m.inj β γ hβ hγ h1 h2 hne b hb
   ·obtain ⟨l2, e2⟩ := m.untouched hγ h2
    rw [e2];intro ho
    rcases m.own β hβ h1 b hb with h3 | ⟨δ, h3, h4⟩
    ·have := h.own_lt l2 ho; omega
    ·exact h.inj δ γ (m.liveOld h3) l2 (fun e => h2 (.inl (by rw [← e]; exact h3))) b h4 ho
  ·obtain ⟨l1, e1⟩ := m.untouched hβ h1
   rw [e1] at hb
   by_cases h2 : γ ∈ T ∨ S.heap.length ≤ γ
   ·intro ho
    rcases m.own γ hγ h2 b ho with h3 | ⟨δ, h3, h4⟩
    ·have := h.own_lt l1 hb; omega
    ·exact h.inj β δ l1 (m.liveOld h3) (fun e => h1 (.inl (by rw [e]; exact h3))) b hb h4
   ·obtain ⟨l2, e2⟩ := m.untouched hγ h2
    rw [e2];exact h.inj β γ l1 l2 hne b hb
 ·by_cases h1 : β ∈ T ∨ S.heap.length ≤ β
  ·rcases m.own β hβ h1 b hb with h3 | ⟨δ, h3, h4⟩
   ·have := h.ex b hx; omega
   ·exact h.exo δ (m.liveOld h3) b h4 hx
  ·obtain ⟨l1, e1⟩ := m.untouched hβ h1
   rw [e1] at hb;exact h.exo β l1 b hb hx
theorem R_quiet (h : R X M w0 S μ ρ a w) (q : Quiet w w') : R X M w0 S μ ρ a w' := by
 have hF : Fz X S.heap μ w' = Fz X S.heap μ w := by unfold Fz; rw [q.heap]
 have hg : Grows (Fz X S.heap μ w) (Fz X S.heap μ w') S.heap.length S.heap.length μ μ ρ ρ w w' := by rw [hF];exact Grows.same ⟨fun _ h => h, fun b _ => by rw [q.heap]⟩ ⟨[], by simp⟩ (Nat.le_refl _) fun _ _ => rfl
 refine ⟨⟨q.os.trans h.keeps.os, q.tape.trans h.keeps.tape, q.output.trans h.keeps.output, by rw [q.heap]; exact h.keeps.size, fun k h1 h2 => by rw [q.heap]; exact h.keeps.block k h1 h2, Nat.le_trans h.keeps.drawn q.drawn⟩,
  h.len, h.size, h.defers, fun i s hs => (h.slots i s hs).mono hg, fun β sb hb => (h.blocks β sb hb).grow hg (by rw [q.heap]; exact Nat.le_refl _) (fun b _ => by rw [q.heap]), fun b hb => by rw [q.heap]; exact h.ex b hb, h.inj, h.exo, h.anc⟩
theorem put_ok {dst : Option Nat} {v : SV} {slots : List SV} (h : put S dst v = .ok slots) : slots.length = S.slots.length ∧
  ∀ i s, slots[i]? = some s → (S.slots[i]? = some s ∧ dst ≠ some i) ∨ (dst = some i ∧ s = v ∧ i < S.slots.length) := by
 unfold put at h
 split at h
 ·simp only [Except.ok.injEq] at h; subst h; exact ⟨rfl, fun i s hs => .inl ⟨hs, by simp⟩⟩
 ·rename_i d
  split at h
  ·rename_i hd
   simp only [Except.ok.injEq] at h; subst h;refine ⟨by simp, fun i s hs => ?_⟩
   by_cases hi : d = i
   ·subst hi
    rw [List.getElem?_set_self hd] at hs;simp only [Option.some.injEq] at hs;exact .inr ⟨rfl, hs.symm, hd⟩
   ·rw [List.getElem?_set_ne hi] at hs
    exact .inl ⟨hs, by simp [hi]⟩
  ·cases h
theorem tmps_put {dst : Option Nat} {u : Value} (i : Nat) : (a.put dst u).tmps.getD i Go.undef = if dst = some i ∧ i < a.tmps.size then u else a.tmps.getD i Go.undef := by
 unfold Act.put
 cases dst with
 | none => simp
 | some d =>
  simp only [Option.some.injEq]
  by_cases h : d = i
  ·subst h
   by_cases hd : d < a.tmps.size
   ·simp [hd]
   ·simp [hd]
  ·simp [h]
theorem R_put {dst : Option Nat} {v : SV} {slots : List SV} {u : Value} (h : R X M w0 S μ ρ a w) (hp : put S dst v = .ok slots) (hv : SVR w (Fz X S.heap μ w) S.heap.length μ ρ v u) :
  R X M w0 { S with slots } μ ρ (a.put dst u) w := by
 obtain ⟨hl, hs⟩ := put_ok hp
 refine ⟨h.keeps, h.len, ?_, ?_, fun i s hi => ?_, h.blocks, h.ex, h.inj, h.exo, h.anc⟩
 ·have : (a.put dst u).tmps.size = a.tmps.size := by unfold Act.put; cases dst <;> simp
  rw [this, h.size, hl]
 ·have : (a.put dst u).defers = a.defers := by unfold Act.put; cases dst <;> rfl
  rw [this, h.defers]
 ·rw [tmps_put]
  rcases hs i s hi with ⟨h1, h2⟩ | ⟨rfl, rfl, h3⟩
  ·rw [if_neg (fun e => h2 e.1)]
   exact h.slots i s h1
  ·rw [if_pos ⟨rfl, by rw [h.size]; exact h3⟩]
   exact hv
end
end Vs

namespace Vs
open Go Go.RowKit
def effRun (G : Nat → List D → Option (List D)) (ρ : List D) : Eff → Option (List D)
 | .prims ps => pushAll ps ρ
 | .call pre f xs m post => (pushAll pre ρ).bind fun ρ1 => match G f (evs ρ1 xs) with | some ds => if ds.length = m then pushAll post (ρ1 ++ ds) else none | none => none
def effLen : Eff → Nat
 | .prims ps => ps.length
 | .call pre _ _ m post => pre.length + m + post.length
structure EnvOk (E : Env) (G : Nat → List D → Option (List D)) : Prop where
 ext : ExtOk E.P E.ext
 sig : ∀ f key sg, E.sig f = some (key, sg) → SoundCall E.P f sg (G key)
section
variable {P : Program} {X : Nat → Prop} {M : Hand} {w0 w w' : World} {S : SS} {μ μ' : Mu} {ρ : List D} {a : Act}
theorem tmps_get (h : R X M w0 S μ ρ a w) {d : Nat} {s : SV} (hs : S.slots[d]? = some s) : a.tmps[d]? = some (a.tmps.getD d Go.undef) := by
 have hlt : d < a.tmps.size := by
  rw [h.size]
  rcases Nat.lt_or_ge d S.slots.length with h' | h'
  ·exact h'
  ·rw [List.getElem?_eq_none h'] at hs; cases hs
 rw [Array.getElem?_eq_getElem hlt]
 simp [hlt]
theorem get_lt {i n : Nat} (hn : ρ.length = n) (hi : i < n) : (Atom.v i).get ρ ≠ none := by
 subst hn
 simp only [Atom.get]
 rw [List.getElem?_eq_getElem hi]
 simp
theorem ok_of_get {x : Atom} {b want : Bool} (h : x.get ρ = some (.bool b)) : Guard.ok ρ (some (x, want)) = (b == want) := by simp [Guard.ok, Atom.ev_of_get h]
theorem guardOf_ok {ops : Array Oper} {o : Oper} {g : Guard} (h : guardOf S ops.toList o = .ok g) (hR : R X M w0 S μ ρ a w) :
  Region.wanted o (yielded ops a.tmps) = g.ok ρ ∧ (∀ x want, g = some (x, want) → x.get ρ ≠ none) := by
 unfold guardOf at h
 unfold Region.wanted
 split at h
 ·rename_i hg
  simp only [Except.ok.injEq] at h;subst h;exact ⟨by rw [hg]; rfl, by simp⟩
 ·rename_i j want hg
  rw [hg];simp only;split at h
  ·rename_i d hd
   have hy : yielded ops a.tmps j = (match a.tmps[d]? with | some (.bool b) => some b | _ => none) := by
    unfold yielded;have : ops[j]? = ops.toList[j]? := by simp
    rw [this, hd];rfl
   rw [hy];split at h
   ·rename_i i hs
    split at h
    ·rename_i hi
     simp only [Except.ok.injEq] at h;subst h;obtain ⟨b, hv, hb⟩ := rd_bool (hR.slots d _ hs);refine ⟨?_, fun x want e => ?_⟩
     ·rw [tmps_get hR hs, hv, ok_of_get hb]
      simp
     ·simp only [Option.some.injEq, Prod.mk.injEq] at e
      rw [← e.1];exact get_lt hR.len hi
    ·cases h
   ·rename_i g0 w0' i hs
    split at h
    ·rename_i hi
     simp only [Except.ok.injEq] at h;subst h;have hh := hR.slots d _ hs;refine ⟨?_, fun x want e => ?_⟩
     ·rw [tmps_get hR hs]
      by_cases hc : g0.get ρ = some (.bool w0')
      ·obtain ⟨b, hv, hb⟩ := rd_bool (hh.2.1 hc)
       rw [hv, ok_of_get hb];simp
      ·obtain ⟨hv, dd, hd', hb⟩ := hh.2.2 hc
       rw [hv];have : (Atom.v i).ev ρ = dd := Atom.ev_of_get (x := .v i) hd';simp only [Guard.ok, this, Go.undef]
       cases dd <;> first | rfl | exact absurd rfl (hb _)
     ·simp only [Option.some.injEq, Prod.mk.injEq] at e
      rw [← e.1];exact get_lt hR.len hi
    ·cases h
   ·rename_i b hs
    split at h
    ·rename_i hb
     subst hb;simp only [Except.ok.injEq] at h;subst h;obtain ⟨b', hv, hb'⟩ := rd_bool (hR.slots d _ hs);simp only [Atom.get, Option.some.injEq, D.bool.injEq] at hb';subst hb';refine ⟨?_, by simp⟩
     rw [tmps_get hR hs, hv];simp [Guard.ok]
    ·cases h
   ·cases h
  ·cases h
theorem guard_append {g : Guard} (hg : ∀ x want, g = some (x, want) → x.get ρ ≠ none) (σ : List D) : g.ok (ρ ++ σ) = g.ok ρ := by
 cases g with
 | none => rfl
 | some p =>
  obtain ⟨x, want⟩ := p;have := hg x want rfl
  cases hx : x.get ρ with
  | none => exact absurd hx this
  | some d => simp only [Guard.ok, Atom.ev_of_get hx, Atom.ev_of_get (Atom.get_append (σ := σ) hx)]
theorem wrapG_ok {F : Nat → Prop} {hl : Nat} {g : Guard} {s : SV} {v : Value} (hg : ∀ x want, g = some (x, want) → x.get ρ ≠ none) (hok : g.ok ρ = true) (h : SVR w F hl μ ρ s v) : SVR w F hl μ ρ (wrapG g s) v := by
 unfold wrapG
 split
 ·exact h
 ·rename_i x want
  exact ⟨hg x want rfl, fun _ => h, fun hn => absurd (guard_get hok) hn⟩
theorem not_ok {x : Atom} {want : Bool} (h : Guard.ok ρ (some (x, want)) = false) : x.get ρ ≠ some (.bool want) := by
 intro hx
 rw [ok_of_get hx] at h
 simp at h
theorem R_skip {g : Guard} {s : SV} {slots : List SV} {dst : Option Nat} {m : Nat} (h : R X M w0 S μ ρ a w) (hg : ∀ x want, g = some (x, want) → x.get ρ ≠ none) (hok : g.ok ρ = false) (hp : put S dst (wrapG g s) = .ok slots)
  (hf : freshSV S.n m s = true) :
  R X M w0 { S with n := S.n + m, slots } μ (ρ ++ List.replicate m .undef) (a.put dst Go.undef) w := by
 have h1 := R_env h (List.replicate m .undef)
 simp only [List.length_replicate] at h1
 refine R_put h1 (by simpa [put] using hp) ?_
 cases g with
 | none => simp [Guard.ok] at hok
 | some p =>
  obtain ⟨x, want⟩ := p;have hx := hg x want rfl
  cases hxe : x.get ρ with
  | none => exact absurd hxe hx
  | some d =>
   have hx' := Atom.get_append (σ := List.replicate m D.undef) hxe;refine ⟨by rw [hx']; simp, fun hc => ?_, fun _ => ⟨rfl, ?_⟩⟩
   ·rw [hx'] at hc
    exact absurd (hxe.trans hc) (not_ok hok)
   ·unfold unset
    split
    ·rename_i t i
     simp only [freshSV, Bool.and_eq_true, decide_eq_true_eq] at hf;refine ⟨.undef, ?_, by simp⟩
     rw [List.getElem?_append_right (by rw [h.len]; exact hf.1), List.getElem?_replicate, if_pos (by rw [h.len]; omega)]
    ·trivial
theorem own_read (h : R X M w0 S μ ρ a w) {β : Nat} {t : CT} {e : TypeId} {x : Atom} {F : Nat → Prop} (hF : ∀ b, Fz X S.heap μ w b → F b) (hβ : ∀ b, (μ β).own b → F b) (hb : S.heap[β]? = some (.row t e x)) : ∃ d, x.get ρ = some d ∧ RdC w F t (μ β).v d := by
 obtain ⟨_, n, xs, ls, h1, h2, h3, h4, h5⟩ := h.blocks β _ hb
 refine ⟨_, h3, ?_⟩
 have hst : Stays (Fz X S.heap μ w) F w w := ⟨hF, fun _ _ => rfl⟩
 have h5' := h5.mono hst
 have key : RdSl w F (rowRd w F t) (rowAgg t) (μ β).v (.lst (ls.map (unflat (rowAgg t)))) := by
  refine ⟨ls, rfl, ?_⟩
  rcases h1.2 with ⟨e1, e2⟩ | ⟨g, cap, cur, e1, _, e3, e5, _, _, e4⟩
  ·exact .inl ⟨⟨none, 0, e1, fun _ => rfl⟩, List.eq_nil_of_length_eq_zero (by omega)⟩
  ·refine .inr ⟨g, 0, cap, xs, by rw [h4]; exact e1, by omega, hβ g (.inl (by rw [e1]; rfl)), fun j u hu => ?_, h5'⟩
   rw [cell_of_cells e3, Nat.zero_add];rw [← e4, List.getElem?_take] at hu;split at hu
   ·simpa using hu
   ·cases hu
 cases t with
 | b t => exact h5.elim
 | s1 e => exact key
 | s2 e => exact key
theorem own1_read {et : ET} {e : TypeId} {v : Value} {n : Nat} {xs : List Value} {l : List (List D)} {F : Nat → Prop} (h1 : w.ownsRow 0 e et.cells.length v n xs) (hn : l.length = n) (hr : RdRow RdB et.cells xs l) (hF : ∀ b, blkOf v = some b → F b) :
  RdSl w F (rr1 et) et.agg v (.lst (l.map (unflat et.agg))) := by
 refine ⟨l, rfl, ?_⟩
 rcases h1.2 with ⟨e1, e2⟩ | ⟨g, cap, cur, e1, _, e3, e5, _, _, e4⟩
 ·exact .inl ⟨⟨none, 0, e1, fun _ => rfl⟩, List.eq_nil_of_length_eq_zero (by omega)⟩
 ·refine .inr ⟨g, 0, cap, xs, by rw [hn]; exact e1, by omega, hF g (by rw [e1]; rfl), fun j u hu => ?_, hr⟩
  rw [cell_of_cells e3, Nat.zero_add];rw [← e4, List.getElem?_take] at hu;split at hu
  ·simpa using hu
  ·cases hu
theorem rows_row {et : ET} {e' : TypeId} {F : Nat → Prop} : ∀ {us : List Value} {ls : List (List (List D))}, RowsD w et e' us ls → (∀ u ∈ us, ∀ b, blkOf u = some b → F b) →
  RdRow (fun (_ : Unit) v d => RdSl w F (rr1 et) et.agg v d) [()] us (ls.map fun l => [.lst (l.map (unflat et.agg))])
 | [], [], _, _ => rfl
 | u :: us, l :: ls, h, hF => by obtain ⟨n, xs, h1, h2, h3⟩ := h.2 0 u l rfl rfl;refine ⟨[u], us, rfl, ⟨own1_read h1 h2 h3 (hF u (by simp)), trivial⟩, rows_row ⟨by simpa using h.1, fun i u' l' hi hl => h.2 (i + 1) u' l' (by simpa using hi) (by simpa using hl)⟩ fun u' hu' => hF u' (by simp [hu'])⟩
 | [], _ :: _, h, _ => by have := h.1; simp at this
 | _ :: _, [], h, _ => by have := h.1; simp at this
theorem ownRows_read {et : ET} {e' e : TypeId} {m : MV} {n : Nat} {ls : List (List (List D))} {F : Nat → Prop} (h1 : w.ownsRow 0 e 1 m.v n m.inner) (hn : ls.length = n) (hr : RowsD w et e' m.inner ls) (hF : ∀ b, m.own b → F b) :
  RdC w F (.s2 et) m.v (rowsDat et.agg ls) := by
 have hrr := rows_row (F := F) hr fun u hu b hb => hF b (.inr ⟨u, hu, hb⟩)
 refine ⟨ls.map fun l => [.lst (l.map (unflat et.agg))], by simp [rowsDat, unflat], ?_⟩
 rcases h1.2 with ⟨e1, e2⟩ | ⟨g, cap, cur, e1, _, e3, e5, _, _, e4⟩
 ·exact .inl ⟨⟨none, 0, e1, fun _ => rfl⟩, by rw [List.eq_nil_of_length_eq_zero (by omega : ls.length = 0)]; rfl⟩
 ·refine .inr ⟨g, 0, cap, m.inner, by rw [List.length_map, hn]; exact e1, by rw [List.length_map]; omega, hF g (.inl (by rw [e1]; rfl)), fun j u hu => ?_, hrr⟩
  rw [cell_of_cells e3, Nat.zero_add];rw [← e4, List.getElem?_take] at hu;split at hu
  ·simpa using hu
  ·cases hu
theorem cellAtom_ok (h : R X M w0 S μ ρ a w) {F : Nat → Prop} (hF : ∀ b, Fz X S.heap μ w b → F b) {t : CT} {c : CV} {x : Atom} {v : Value} (hβ : ∀ β, β ∈ rdsOf c → ∀ b, (μ β).own b → F b) (hc : cellAtom S t c = .ok x) (hv : CVR w (Fz X S.heap μ w) S.heap.length μ ρ c v) :
  ∃ d, x.get ρ = some d ∧ RdC w F t v d := by
 unfold cellAtom at hc
 split at hc
 ·split at hc
  ·rename_i ht
   subst ht;simp only [Except.ok.injEq] at hc;subst hc;obtain ⟨d, hx, hd⟩ := hv;exact ⟨d, hx, hd.mono ⟨hF, fun _ _ => rfl⟩⟩
  ·cases hc
 ·split at hc
  ·cases hc
  ·rename_i hb
   simp only [Except.ok.injEq] at hc;subst hc;simp only [CVR, CVR0] at hv;subst hv;refine ⟨_, rfl, ?_⟩
   cases t with
   | b t => exact absurd rfl (hb t)
   | s1 e => exact ⟨[], rfl, .inl ⟨⟨none, 0, rfl, fun _ => rfl⟩, rfl⟩⟩
   | s2 e => exact ⟨[], rfl, .inl ⟨⟨none, 0, rfl, fun _ => rfl⟩, rfl⟩⟩
 ·rename_i β
  have hβ' := hβ β (by simp [rdsOf])
  split at hc
  ·rename_i hrow
   split at hc
   ·rename_i ht
    subst ht;simp only [Except.ok.injEq] at hc;subst hc;obtain ⟨_, rfl, _⟩ := hv;exact own_read h hF hβ' hrow
   ·cases hc
  ·rename_i hrow
   split at hc
   ·rename_i ht
    subst ht;simp only [Except.ok.injEq] at hc;subst hc;obtain ⟨_, rfl, _⟩ := hv;obtain ⟨_, n, ls, h1, _, h3, h4, h5, _⟩ := h.blocks β _ hrow;exact ⟨_, h3, ownRows_read h1 h4 h5 hβ'⟩
   ·cases hc
  ·cases hc
 ·rename_i β ver d i y
  have hβ' := hβ β (by simp [rdsOf])
  split at hc
  ·rename_i et e hnow
   split at hc
   ·rename_i ht
    subst ht;simp only [Except.ok.injEq] at hc;subst hc;obtain ⟨_, l, hl, hm⟩ := hv;obtain ⟨⟨n, xs, ls, h1, hy, hn, hr⟩, hin, _⟩ := rowsNow_ok h hnow hl hm;exact ⟨_, hy, own1_read h1 hn hr fun b hb => hβ' b (.inr ⟨_, hin, hb⟩)⟩
   ·cases hc
  ·cases hc
 ·cases hc
def HMat (μ : Mu) (ρ : List D) (β : Nat) (keep : Bool) (m : MV) : Option Atom → Prop
 | none => m.v = (μ β).v ∧ m.inner = (μ β).inner
 | some i => keep = true ∧ m.hist = [] ∧ ∃ n : Int, i.get ρ = some (.int n) ∧ 0 ≤ n ∧ (μ β).inner[n.toNat]? = some m.v
def HMok (μ : Mu) (ρ : List D) (ma : MA) (h : HM) : Prop := h.k = ma.k ∧ h.keep = ma.keep ∧ HMat μ ρ ma.β ma.keep h.m ma.at?
def HMs (μ : Mu) (ρ : List D) : List MA → List HM → Prop
 | [], [] => True
 | a :: as, h :: hs => HMok μ ρ a h ∧ HMs μ ρ as hs
 | _, _ => False
theorem HMok.own {ma : MA} {h : HM} (hm : HMok μ ρ ma h) {b : Nat} (hb : h.m.own b) : (μ ma.β).own b := by
 obtain ⟨_, _, h3⟩ := hm
 unfold HMat at h3
 split at h3
 ·rcases hb with hb | hb
  ·exact .inl (by rw [← h3.1]; exact hb)
  ·exact .inr (by rw [← h3.2]; exact hb)
 ·obtain ⟨_, h0, n, _, _, h5⟩ := h3
  exact .inr ⟨_, List.mem_of_getElem? h5, (MV.own_flat h0).1 hb⟩
theorem HMok.app {ma : MA} {h : HM} (hm : HMok μ ρ ma h) (σ : List D) : HMok μ (ρ ++ σ) ma h := by
 obtain ⟨h1, h2, h3⟩ := hm
 refine ⟨h1, h2, ?_⟩
 cases e : ma.at? with
 | none => rw [e] at h3; exact h3
 | some i =>
  rw [e] at h3;obtain ⟨h4, h5, n, h6, h7⟩ := h3;exact ⟨h4, h5, n, Atom.get_append h6, h7⟩
theorem HMs.app (σ : List D) : ∀ {as : List MA} {hs : List HM}, HMs μ ρ as hs → HMs μ (ρ ++ σ) as hs
 | [], [], _ => trivial
 | _ :: _, _ :: _, ⟨h1, h2⟩ => ⟨h1.app σ, HMs.app σ h2⟩
theorem HMs.concat : ∀ {as as' : List MA} {hs hs' : List HM}, HMs μ ρ as hs → HMs μ ρ as' hs' → HMs μ ρ (as ++ as') (hs ++ hs')
 | [], _, [], _, _, h => h
 | _ :: _, _, _ :: _, _, ⟨h1, h2⟩, h => ⟨h1, h2.concat h⟩
theorem HMs.length : ∀ {as : List MA} {hs : List HM}, HMs μ ρ as hs → as.length = hs.length
 | [], [], _ => rfl
 | _ :: _, _ :: _, ⟨_, h2⟩ => by simp [h2.length]
theorem HMs.get {h : HM} : ∀ {as : List MA} {hs : List HM} {i : Nat}, HMs μ ρ as hs → hs[i]? = some h → ∃ a, as[i]? = some a ∧ HMok μ ρ a h
 | [], [], i, _, hi => by simp at hi
 | a :: as, h' :: hs, i, ⟨h1, h2⟩, hi => by
  cases i with
  | zero => simp only [List.getElem?_cons_zero, Option.some.injEq] at hi; subst hi; exact ⟨a, rfl, h1⟩
  | succ i => simp only [List.getElem?_cons_succ] at hi ⊢; exact h2.get hi
def fitMA : Option Atom → MK → SB → Prop
 | none, .row t e, .row t' e' _ => t = t' ∧ e = e'
 | none, .rows et f e, .rows et' f' e' _ _ => et = et' ∧ f = f' ∧ e = e'
 | some _, .row t f, .rows et f' _ _ _ => t = .s1 et ∧ f = f'
 | none, .box ts, .bx ts' _ => ts = ts'
 | _, _, _ => False
def MAok (S : SS) (ma : MA) : Prop := ∃ sb, S.heap[ma.β]? = some sb ∧ fitMA ma.at? ma.k sb ∧ (ma.at? ≠ none → ma.keep = true)
theorem fit_mine {i : Option Atom} {k : MK} {sb : SB} (h : fitMA i k sb) : mineB sb = true := by
 cases i <;> cases k <;> cases sb <;> first | rfl | exact h.elim
theorem evs_app {xs : List Atom} {ρ σ : List D} (h : ∀ x ∈ xs, x.get ρ ≠ none) : evs (ρ ++ σ) xs = evs ρ xs := by
 unfold evs
 refine List.map_congr_left fun x hx => ?_
 cases e : x.get ρ with
 | none => exact absurd e (h x hx)
 | some d => rw [Atom.ev_of_get e, Atom.ev_of_get (Atom.get_append e)]
def AOK (X : Nat → Prop) (V : Prop) (w : World) (S : SS) (μ : Mu) (p : AR) (ρ' : List D) (C : (Nat → Prop) → List D → List HM → Prop) : Prop :=
 ∃ hs, HMs μ ρ' p.mas hs ∧ (∀ ma ∈ p.mas, MAok S ma) ∧ (∀ x ∈ p.xs, x.get ρ' ≠ none) ∧ (∀ β ∈ p.rds, live S.heap β) ∧
  ∀ F : Nat → Prop, (∀ b, Fz X S.heap μ w b → F b) → (∀ β ∈ p.rds, ∀ b, (μ β).own b → F b) → (V → ∀ β cs, S.heap[β]? = some (.var cs) → ∀ b, (μ β).own b → F b) → C F (evs ρ' p.xs) hs
variable {V : Prop}
theorem AOK.app {p q : AR} {ρ' σ : List D} {C1 C2 : (Nat → Prop) → List D → List HM → Prop} (h1 : AOK X V w S μ p ρ' C1) (h2 : AOK X V w S μ q (ρ' ++ σ) C2) :
  AOK X V w S μ (p.app q) (ρ' ++ σ) (fun F ds hs => ∃ d1 d2 m1 m2, ds = d1 ++ d2 ∧ hs = m1 ++ m2 ∧ C1 F d1 m1 ∧ C2 F d2 m2) := by
 obtain ⟨hs, a1, a2, a3, a4, a5⟩ := h1
 obtain ⟨ks, b1, b2, b3, b4, b5⟩ := h2
 refine ⟨hs ++ ks, (a1.app σ).concat b1, fun ma hm => ?_, fun x hx => ?_, fun β hb => ?_, fun F f1 f2 f3 => ?_⟩
 ·rcases List.mem_append.1 hm with h | h
  ·exact a2 ma h
  ·exact b2 ma h
 ·rcases List.mem_append.1 hx with h | h
  ·cases e : x.get ρ' with
   | none => exact absurd e (a3 x h)
   | some d => rw [Atom.get_append e]; simp
  ·exact b3 x h
 ·rcases List.mem_append.1 hb with h | h
  ·exact a4 β h
  ·exact b4 β h
 ·refine ⟨evs ρ' p.xs, evs (ρ' ++ σ) q.xs, hs, ks, ?_, rfl, a5 F f1 (fun β hb => f2 β (List.mem_append.2 (.inl hb))) f3, b5 F f1 (fun β hb => f2 β (List.mem_append.2 (.inr hb))) f3⟩
  show evs (ρ' ++ σ) (p.xs ++ q.xs) = _;rw [← evs_app (σ := σ) a3];simp [evs]
theorem AOK.nil {ρ' : List D} : AOK X V w S μ .nil ρ' (fun _ ds hs => ds = [] ∧ hs = []) := ⟨[], trivial, by simp [AR.nil], by simp [AR.nil], by simp [AR.nil], fun _ _ _ _ => ⟨rfl, rfl⟩⟩
theorem AOK.imp {p : AR} {ρ' : List D} {C1 C2 : (Nat → Prop) → List D → List HM → Prop} (h : AOK X V w S μ p ρ' C1) (hi : ∀ F, (∀ b, Fz X S.heap μ w b → F b) → (V → ∀ β cs, S.heap[β]? = some (.var cs) → ∀ b, (μ β).own b → F b) → ∀ ds hs, C1 F ds hs → C2 F ds hs) : AOK X V w S μ p ρ' C2 := by
 obtain ⟨hs, a1, a2, a3, a4, a5⟩ := h
 exact ⟨hs, a1, a2, a3, a4, fun F f1 f2 f3 => hi F f1 f3 _ _ (a5 F f1 f2 f3)⟩
theorem push_split {p q : List Push} {ρ ρ' : List D} (h : pushAll (p ++ q) ρ = some ρ') : ∃ σ, pushAll p ρ = some (ρ ++ σ) ∧ σ.length = p.length ∧ pushAll q (ρ ++ σ) = some ρ' := by
 rw [pushAll_append] at h
 cases e : pushAll p ρ with
 | none => rw [e] at h; cases h
 | some ρ1 =>
  rw [e, Option.bind_some] at h;obtain ⟨σ, rfl, hl⟩ := pushAll_env e;exact ⟨σ, rfl, hl, h⟩
theorem rowRd_s1 {F F' : Nat → Prop} {t : CT} {xs : List Value} {ls : List (List D)} (ht : isS1 t = true) (h : rowRd w F t xs ls) : rowRd w F' t xs ls := by
 cases t with
 | s1 _ => exact h
 | _ => cases ht
theorem row_own {t : CT} {e : TypeId} {x : Atom} {β : Nat} (h : R X M w0 S μ ρ a w) (hb : S.heap[β]? = some (.row t e x)) {F : Nat → Prop} (hF : ∀ b, Fz X S.heap μ w b → F b) : ∃ d, x.get ρ = some d ∧ OwnK w F (.row t e) (μ β) d := by
 obtain ⟨h0, n, xs, ls, h1, h2, h3, h4, h5⟩ := h.blocks β _ hb
 exact ⟨_, h3, h0, n, xs, ls, h1, rfl, h4, h5.mono ⟨hF, fun _ _ => rfl⟩⟩
theorem argCell_ok (h : R X M w0 S μ ρ a w) {σ : List D} {pc : PC} {c : CV} {p : AR} {v : Value} {ρ' : List D} (hc : argCell S (ρ ++ σ).length pc c = .ok p) (hv : CVR w (Fz X S.heap μ w) S.heap.length μ ρ c v)
  (hp : pushAll p.pre (ρ ++ σ) = some ρ') : AOK X V w S μ p ρ' (fun F ds hs => ∃ d, ds = [d] ∧ ArgC w F pc v d hs) := by
 unfold argCell at hc
 split at hc
 ·rename_i t
  obtain ⟨x, h1, h2⟩ := bind_ok hc;simp only [Except.ok.injEq] at h2;subst h2;simp only [pushAll, Option.some.injEq] at hp;subst hp;have key := fun (F : Nat → Prop) (f1 : ∀ b, Fz X S.heap μ w b → F b) (f2 : ∀ β ∈ rdsOf c, ∀ b, (μ β).own b → F b) => cellAtom_ok h f1 f2 h1 hv
  obtain ⟨d0, hd0, _⟩ := key (fun _ => True) (fun _ _ => trivial) (fun _ _ _ _ => trivial)
  refine ⟨[], trivial, by simp, fun y hy => ?_, fun β hb => ?_, fun F f1 f2 _ => ?_⟩
  ·simp only [List.mem_singleton] at hy; subst hy; rw [Atom.get_append hd0]; simp
  ·
   match c, hb with
   | .s (.own γ), hb =>
    simp only [rdsOf, List.mem_singleton] at hb;subst hb;simp only [cellAtom] at h1;split at h1
    ·rename_i e; exact ⟨_, e, by simp⟩
    ·rename_i e; exact ⟨_, e, by simp⟩
    ·cases h1
   | .s (.rref γ ver d i y), hb =>
    simp only [rdsOf, List.mem_singleton] at hb;subst hb;simp only [cellAtom] at h1;split at h1
    ·rename_i et e hnow
     obtain ⟨_, l, hl, hm⟩ := hv;obtain ⟨_, _, e', z, hz⟩ := rowsNow_ok h hnow hl hm;exact ⟨_, hz, by simp⟩
    ·cases h1
  ·obtain ⟨d, hd, hr⟩ := key F f1 f2
   refine ⟨d, ?_, rfl, hr⟩;simp [evs, Atom.ev_of_get (Atom.get_append (σ := σ) hd)]
 ·rename_i k keep β
  split at hc
  ·rename_i t e x t' e' hb
   split at hc
   ·rename_i ht
    obtain ⟨rfl, rfl⟩ := ht;simp only [Except.ok.injEq] at hc;subst hc;simp only [pushAll, Option.some.injEq] at hp;subst hp;obtain ⟨_, rfl, _⟩ := hv;obtain ⟨d0, hd0, _⟩ := row_own h hb (fun b hb => hb)
    refine ⟨[⟨μ β, .row t e, keep⟩], ⟨⟨rfl, rfl, rfl, rfl⟩, trivial⟩, fun ma hm => ?_, fun y hy => ?_, by simp, fun F f1 _ _ => ?_⟩
    ·simp only [List.mem_singleton] at hm; subst hm; exact ⟨_, hb, ⟨rfl, rfl⟩, fun e => absurd rfl e⟩
    ·simp only [List.mem_singleton] at hy; subst hy; rw [Atom.get_append hd0]; simp
    ·obtain ⟨d, hd, hr⟩ := row_own h hb f1
     exact ⟨d, by simp [evs, Atom.ev_of_get (Atom.get_append (σ := σ) hd)], _, rfl, rfl, hr, rfl⟩
   ·cases hc
  ·rename_i et f e ver x et' f' e' hb
   split at hc
   ·rename_i ht
    obtain ⟨rfl, rfl, rfl⟩ := ht;simp only [Except.ok.injEq] at hc;subst hc;simp only [pushAll, Option.some.injEq] at hp;subst hp;obtain ⟨_, rfl, _⟩ := hv;obtain ⟨_, n, ls, h1, _, h3, h4, h5, h6⟩ := h.blocks β _ hb;have hin : (MV.mk (μ β).v [(μ β).inner]).inner = (μ β).inner := rfl;refine ⟨[⟨⟨(μ β).v, [(μ β).inner]⟩, .rows et f e, keep⟩], ⟨⟨rfl, rfl, rfl, hin⟩, trivial⟩, fun ma hm => ?_, fun y hy => ?_, by simp, fun F f1 _ _ => ?_⟩
    ·simp only [List.mem_singleton] at hm; subst hm; exact ⟨_, hb, ⟨rfl, rfl, rfl⟩, fun e => absurd rfl e⟩
    ·simp only [List.mem_singleton] at hy; subst hy; rw [Atom.get_append h3]; simp
    ·exact ⟨rowsDat et.agg ls, by simp only [evs, List.map_cons, List.map_nil, Atom.ev_of_get (Atom.get_append (σ := σ) h3)], _, rfl, rfl, ⟨rfl, n, ls, h1, rfl, h4, h5, h6⟩, rfl⟩
   ·cases hc
  ·cases hc
 ·rename_i k keep β ver d0 i y0
  split at hc
  ·rename_i et f e v' x et' f' hb
   split at hc
   ·rename_i ht
    obtain ⟨rfl, rfl, rfl, rfl⟩ := ht;simp only [Except.ok.injEq] at hc;subst hc;obtain ⟨_, l, g1, _, nn, _, _, g2', _, g4', _⟩ := hv;obtain ⟨n, hnn, g2, g3, g4⟩ : ∃ n : Int, n = (nn : Int) ∧ i.get ρ = some (.int n) ∧ 0 ≤ n ∧ l[n.toNat]? = some v := ⟨nn, rfl, g2', by omega, by simpa using g4'⟩
    obtain ⟨h0, m, ls, h1, _, h3, h4, h5, h6⟩ := h.blocks β _ hb;rw [MV.hist_last h0] at g1;simp only [Option.some.injEq] at g1;subst g1;obtain ⟨d, hd, rfl⟩ := pushAll_one hp;simp only [evs, List.map_cons, List.map_nil, Atom.ev_of_get (Atom.get_append (σ := σ) h3), Atom.ev_of_get (Atom.get_append (σ := σ) g2), rowsDat, Prim.ev, List.length_map] at hd;split at hd
    ·rename_i hlt
     simp only [List.getElem?_map, Option.map_eq_some_iff] at hd;obtain ⟨l, hl, rfl⟩ := hd;obtain ⟨k, ys, hk1, hk2, hk3⟩ := h5.2 n.toNat _ l g4 hl;refine ⟨[⟨⟨v, []⟩, .row (.s1 et) f, true⟩], ⟨⟨rfl, rfl, rfl, rfl, n, Atom.get_append (Atom.get_append g2), g3, g4⟩, trivial⟩, fun ma hm => ?_, fun y hy => ?_, by simp, fun F f1 _ _ => ?_⟩
     ·simp only [List.mem_singleton] at hm; subst hm; exact ⟨_, hb, ⟨rfl, rfl⟩, fun _ => rfl⟩
     ·simp only [List.mem_singleton] at hy; subst hy; rw [get_new rfl]; simp
     ·exact ⟨.lst (l.map (unflat et.agg)), by simp only [evs, List.map_cons, List.map_nil, Atom.ev_of_get (get_new (ρ := ρ ++ σ) (n := (ρ ++ σ).length) rfl)], _, rfl, rfl, ⟨rfl, k, ys, l, hk1, rfl, hk2, hk3⟩, rfl⟩
    ·cases hd
   ·cases hc
  ·cases hc
 ·
  rename_i k keep β off;split at hc
  ·rename_i ts x ts' hb
   split at hc
   ·rename_i ht
    obtain ⟨rfl, rfl⟩ := ht;simp only [Except.ok.injEq] at hc;subst hc;simp only [pushAll, Option.some.injEq] at hp;subst hp;obtain ⟨_, b, hv1, rfl⟩ := hv;obtain ⟨h0, b', arr, T, ds, g1, g2, g3, g4, g5⟩ := h.blocks β _ hb;refine ⟨[⟨μ β, .box ts, keep⟩], ⟨⟨rfl, rfl, rfl, rfl⟩, trivial⟩, fun ma hm => ?_, fun y hy => ?_, by simp, fun F f1 _ _ => ?_⟩
    ·simp only [List.mem_singleton] at hm; subst hm; exact ⟨_, hb, rfl, fun e => absurd rfl e⟩
    ·simp only [List.mem_singleton] at hy; subst hy; rw [Atom.get_append g4]; simp
    ·exact ⟨.agg ds, by simp [evs, Atom.ev_of_get (Atom.get_append (σ := σ) g4)], _, rfl, hv1, ⟨h0, b', arr, T, ds, g1, g3, rfl, g5.mono fun t v d hd => hd.mono ⟨f1, fun _ _ => rfl⟩⟩, rfl⟩
   ·cases hc
  ·cases hc
 ·cases hc
theorem argCells_ok (h : R X M w0 S μ ρ a w) : ∀ {ts : List PC} {cs : List CV} {σ : List D} {p : AR} {vs : List Value} {ρ' : List D}, argCells S (ρ ++ σ).length ts cs = .ok p → CVRs w (Fz X S.heap μ w) S.heap.length μ ρ cs vs →
  pushAll p.pre (ρ ++ σ) = some ρ' → AOK X V w S μ p ρ' (fun F ds hs => ArgCs w F ts vs ds hs)
 | [], [], σ, p, [], ρ', hc, _, _ => by simp only [argCells, Except.ok.injEq] at hc;subst hc;exact AOK.nil
 | t :: ts, c :: cs, σ, p, v :: vs, ρ', hc, ⟨h1, h2⟩, hp => by
  simp only [argCells] at hc;obtain ⟨p1, g1, hc⟩ := bind_ok hc;obtain ⟨p2, g2, hc⟩ := bind_ok hc;simp only [Except.ok.injEq] at hc;subst hc;obtain ⟨σ1, q1, q2, q3⟩ := push_split hp;have e : (ρ ++ σ).length + p1.pre.length = (ρ ++ (σ ++ σ1)).length := by simp [q2]; omega
  rw [e] at g2;rw [List.append_assoc] at q3;obtain ⟨σ2, rfl, _⟩ := pushAll_env q3;have a1 := argCell_ok (V := V) h g1 h1 q1;have a2 := argCells_ok h g2 h2 q3;rw [List.append_assoc] at a1;exact (a1.app a2).imp fun F _ _ ds hs ⟨d1, d2, m1, m2, e1, e2, ⟨d, e3, e4⟩, e5⟩ => ⟨d, d2, m1, m2, by rw [e1, e3]; rfl, e2, e4, e5⟩
 | [], _ :: _, _, _, _, _, hc, _, _ => by simp [argCells] at hc
 | _ :: _, [], _, _, _, _, hc, _, _ => by simp [argCells] at hc
theorem ptr_ok (hV : V) (h : R X M w0 S μ ρ a w) {ts : List PC} {c : CV0} {l : List CV} {σ : List D} {p : AR} {v : Value} {ρ' : List D} {m : Nat} (hl : ptrCells S m c = .ok l) (hc : argCells S (ρ ++ σ).length ts l = .ok p) (hv : CVR0 w (Fz X S.heap μ w) S.heap.length μ ρ c v)
  (hp : pushAll p.pre (ρ ++ σ) = some ρ') : AOK X V w S μ p ρ' (fun F ds hs => PtrR w F ts v ds hs) := by
 unfold ptrCells at hl
 split at hl
 ·rename_i β off
  split at hl
  ·rename_i cs hcs
   simp only [Except.ok.injEq] at hl;subst hl;obtain ⟨_, b, hb, rfl⟩ := hv;obtain ⟨h0, b', arr, T, hb', _, hheap, hC⟩ := h.blocks β _ hcs;rw [hb] at hb';simp only [Value.pointer.injEq, Option.some.injEq, Addr.mk.injEq, and_true] at hb';subst hb';exact (argCells_ok (V := V) h hc ((hC.drop off).take m) hp).imp fun F _ f3 ds hs hA => ⟨b, off, (arr.toList.drop off).take m, rfl, f3 hV β cs hcs b (.inl (by rw [hb]; rfl)), fun j u hu => by rw [cell_of_cells hheap]; exact list_of_arr hu, hA⟩
  ·cases hl
 ·rename_i cs off
  simp only [Except.ok.injEq] at hl;subst hl;obtain ⟨b, o, rfl, hF, hcc⟩ := hv
  obtain ⟨us, hul, huc, hC⟩ := fvals_of (w := w) (F := Fz X S.heap μ w) (ρ := ρ) (cs := (cs.drop off).take m) (Pos := fun j u => w.cell? ⟨b, o + off + j, none⟩ = some u) (hl := S.heap.length) (μ := μ) (fun j c hj => by
   have hj' : cs[off + j]? = some c := getElem?_part hj;obtain ⟨u, h1, h2⟩ := hcc (off + j) c hj'
   exact ⟨u, by rw [Nat.add_assoc]; exact h1, h2⟩)
  exact (argCells_ok (V := V) h hc hC hp).imp fun F f1 _ ds hs hA => ⟨b, o + off, us, rfl, f1 b hF, huc, hA⟩
 ·cases hl
theorem argCaps_ok (hV : V) (h : R X M w0 S μ ρ a w) : ∀ {tss : List (List PC)} {cs : List CV0} {σ : List D} {p : AR} {vs : List Value} {ρ' : List D}, argCaps S (ρ ++ σ).length tss cs = .ok p → vs.length = cs.length →
  (∀ (j : Nat) c u, cs[j]? = some c → vs[j]? = some u → CVR0 w (Fz X S.heap μ w) S.heap.length μ ρ c u) → pushAll p.pre (ρ ++ σ) = some ρ' → AOK X V w S μ p ρ' (fun F ds hs => CapsR w F tss vs ds hs)
 | [], [], σ, p, [], ρ', hc, _, _, _ => by simp only [argCaps, Except.ok.injEq] at hc;subst hc;exact AOK.nil
 | ts :: tss, c :: cs, σ, p, v :: vs, ρ', hc, hl, hv, hp => by
  simp only [argCaps] at hc;obtain ⟨l, g0, hc⟩ := bind_ok hc;obtain ⟨p1, g1, hc⟩ := bind_ok hc;obtain ⟨p2, g2, hc⟩ := bind_ok hc;simp only [Except.ok.injEq] at hc;subst hc;obtain ⟨σ1, q1, q2, q3⟩ := push_split hp;have e : (ρ ++ σ).length + p1.pre.length = (ρ ++ (σ ++ σ1)).length := by simp [q2]; omega
  rw [e] at g2;rw [List.append_assoc] at q3;obtain ⟨σ2, rfl, _⟩ := pushAll_env q3;have a1 := ptr_ok hV h g0 g1 (hv 0 c v rfl rfl) q1;have a2 := argCaps_ok hV h g2 (by simpa using hl) (fun j c u h1 h2 => hv (j + 1) c u (by simpa using h1) (by simpa using h2)) q3
  rw [List.append_assoc] at a1;exact (a1.app a2).imp fun F _ _ ds hs hh => hh
 | [], [], _, _, _ :: _, _, _, hl, _, _ => by simp at hl
 | _ :: _, _ :: _, _, _, [], _, _, hl, _, _ => by simp at hl
 | [], _ :: _, _, _, _, _, hc, _, _, _ => by simp [argCaps] at hc
 | _ :: _, [], _, _, _, _, hc, _, _, _ => by simp [argCaps] at hc
theorem argOne_ok (h : R X M w0 S μ ρ a w) {k : PK} (hV : isVal k = true ∨ V) {s : SV} {σ : List D} {p : AR} {v : Value} {ρ' : List D} (hc : argOne S (ρ ++ σ).length k s = .ok p) (hv : SVR w (Fz X S.heap μ w) S.heap.length μ ρ s v)
  (hp : pushAll p.pre (ρ ++ σ) = some ρ') : AOK X V w S μ p ρ' (fun F ds hs => ArgR w F k v ds hs) := by
 unfold argOne at hc
 split at hc
 ·rename_i ag ts s
  split at hc
  ·rename_i ag' cs hcs
   split at hc
   ·rename_i hag
    subst hag;unfold svCells at hcs;split at hcs <;> simp only [Option.some.injEq, Prod.mk.injEq, reduceCtorEq] at hcs
    ·obtain ⟨rfl, rfl⟩ := hcs
     exact argCells_ok (V := V) h hc (vs := [v]) ⟨hv, trivial⟩ hp
    ·obtain ⟨rfl, rfl⟩ := hcs
     obtain ⟨arr, rfl, hC⟩ := hv;exact (argCells_ok (V := V) h hc hC hp).imp fun F _ _ ds hs hh => ⟨arr, rfl, hh⟩
   ·cases hc
  ·cases hc
 ·obtain ⟨l, g0, hc⟩ := bind_ok hc
  exact ptr_ok (hV.resolve_left (by simp [isVal])) h g0 hc hv hp
 ·rename_i f caps f' cs
  split at hc
  ·rename_i hf
   subst hf;obtain ⟨arr, rfl, hl, hcc⟩ := hv;exact (argCaps_ok (hV.resolve_left (by simp [isVal])) h hc (vs := arr.toList) (by simpa using hl) (fun j c u h1 h2 => hcc j c u h1 (by simpa using h2)) hp).imp fun F _ _ ds hs hh => ⟨arr, rfl, hh⟩
  ·cases hc
 ·cases hc
theorem argAll_ok (h : R X M w0 S μ ρ a w) : ∀ {ks : List PK} {ss : List SV} {σ : List D} {p : AR} {vs : List Value} {ρ' : List D}, (ks.all isVal = true ∨ V) → argAll S (ρ ++ σ).length ks ss = .ok p → ss.length = vs.length →
  (∀ (j : Nat) s u, ss[j]? = some s → vs[j]? = some u → SVR w (Fz X S.heap μ w) S.heap.length μ ρ s u) → pushAll p.pre (ρ ++ σ) = some ρ' → AOK X V w S μ p ρ' (fun F ds hs => ArgsR w F ks vs ds hs)
 | [], [], σ, p, [], ρ', _, hc, _, _, _ => by simp only [argAll, Except.ok.injEq] at hc;subst hc;exact AOK.nil
 | k :: ks, s :: ss, σ, p, v :: vs, ρ', hV, hc, hl, hv, hp => by
  have hV1 : isVal k = true ∨ V := hV.imp_left fun h => by simp only [List.all_cons, Bool.and_eq_true] at h; exact h.1
  have hV2 : ks.all isVal = true ∨ V := hV.imp_left fun h => by simp only [List.all_cons, Bool.and_eq_true] at h; exact h.2
  simp only [argAll] at hc;obtain ⟨p1, g1, hc⟩ := bind_ok hc;obtain ⟨p2, g2, hc⟩ := bind_ok hc;simp only [Except.ok.injEq] at hc;subst hc;obtain ⟨σ1, q1, q2, q3⟩ := push_split hp;have e : (ρ ++ σ).length + p1.pre.length = (ρ ++ (σ ++ σ1)).length := by simp [q2]; omega
  rw [e] at g2;rw [List.append_assoc] at q3;obtain ⟨σ2, rfl, _⟩ := pushAll_env q3;have a1 := argOne_ok h hV1 g1 (hv 0 s v rfl rfl) q1;have a2 := argAll_ok h hV2 g2 (by simpa using hl) (fun j s u h1 h2 => hv (j + 1) s u (by simpa using h1) (by simpa using h2)) q3
  rw [List.append_assoc] at a1;exact (a1.app a2).imp fun F _ _ ds hs hh => hh
 | [], [], _, _, _ :: _, _, _, _, hl, _, _ => by simp at hl
 | _ :: _, _ :: _, _, _, [], _, _, _, hl, _, _ => by simp at hl
 | [], _ :: _, _, _, _, _, _, hc, _, _, _ => by simp [argAll] at hc
 | _ :: _, [], _, _, _, _, _, hc, _, _, _ => by simp [argAll] at hc
end
end Vs

namespace Vs
open Go Go.RowKit
section
variable {w' : World} {F' : Nat → Prop} {hl' : Nat} {μ' : Mu} {ρ' : List D} {Mine : Nat → Prop}
theorem OwnK.blk {F0 : Nat → Prop} {k : MK} {m : MV} {d : D} {x : Atom} (h : OwnK w' F0 k m d) (hF : ∀ b, F0 b → F' b) (hx : x.get ρ' = some d) (hm : ∀ b, m.own b → Mine b) : BlkR Mine w' F' hl' μ' ρ' (k.sb 0 x) m := by
 cases k with
 | row t e =>
  obtain ⟨h0, n, xs, ls, h1, rfl, h4, h5⟩ := h;exact ⟨h0, n, xs, ls, h1, hm, hx, h4, h5.mono ⟨hF, fun _ _ => rfl⟩⟩
 | rows et e' e =>
  obtain ⟨h0, n, ls, h1, rfl, h4, h5, h6⟩ := h;exact ⟨h0, n, ls, h1, hm, hx, h4, h5, h6⟩
 | map mk => exact ⟨h.1, hm, d, none, hx, trivial, h.2⟩
 | box ts =>
  obtain ⟨h0, b, arr, T, ds, h1, h2, rfl, h4⟩ := h;exact ⟨h0, b, arr, T, ds, h1, hm b (.inl (by rw [h1]; rfl)), h2, hx, h4.mono fun t v d hd => hd.mono ⟨hF, fun _ _ => rfl⟩⟩
theorem OwnK.slice {w : World} {F : Nat → Prop} {k : MK} {m : MV} {d : D} (h : OwnK w F k m d) (hs : k.sl = true) : ∃ a len cap, m.v = .slice a len cap := by
 cases k with
 | row t e => obtain ⟨_, n, xs, ls, h1, _⟩ := h; obtain ⟨a, cap, e⟩ := ownsRow_slice h1; exact ⟨a, n, cap, e⟩
 | rows et e' e => obtain ⟨_, n, ls, h1, _⟩ := h; obtain ⟨a, cap, e⟩ := ownsRow_slice h1; exact ⟨a, n, cap, e⟩
 | map m => cases hs
 | box ts => cases hs
theorem OwnK.cv {w : World} {F F2 : Nat → Prop} {hl : Nat} {μ : Mu} {ρ : List D} {k : MK} {m : MV} {d : D} {h : Nat} (hk : OwnK w F k m d) (hh : h < hl) (hμ : μ h = m) : CVR0 w F2 hl μ ρ (k.cv h) m.v := by
 cases k with
 | row t e => obtain ⟨_, n, xs, ls, h1, _⟩ := hk; obtain ⟨a, cap, e⟩ := ownsRow_slice h1; exact ⟨hh, by rw [hμ], a, n, cap, by rw [hμ]; exact e⟩
 | rows et e' e => obtain ⟨_, n, ls, h1, _⟩ := hk; obtain ⟨a, cap, e⟩ := ownsRow_slice h1; exact ⟨hh, by rw [hμ], a, n, cap, by rw [hμ]; exact e⟩
 | map mk => obtain ⟨_, b, es, kvs, h1, _⟩ := hk; exact ⟨hh, by rw [hμ], b, by rw [hμ]; exact h1⟩
 | box ts => obtain ⟨_, b, arr, T, ds, h1, _⟩ := hk; exact ⟨hh, b, by rw [hμ]; exact h1, h1⟩
theorem resCells_ok {F0 : Nat → Prop} (hF : ∀ b, F0 b → F' b) : ∀ {rks : List RK} {n h : Nat} {vs : List Value} {ds : List D} {os : List MV}, ResCs w' F0 rks vs ds os → (∀ (i : Nat) d, ds[i]? = some d → ρ'[n + i]? = some d) →
  (∀ (j : Nat) u, os[j]? = some u → μ' (h + j) = u) → h + os.length ≤ hl' → (∀ u ∈ os, ∀ b, u.own b → Mine b) →
  CVRs w' F' hl' μ' ρ' (resCells rks n h).1 vs ∧ (resCells rks n h).2.length = os.length ∧ ds.length = rks.length ∧ ∀ (j : Nat) sb, (resCells rks n h).2[j]? = some sb → BlkR Mine w' F' hl' μ' ρ' sb (μ' (h + j))
 | [], n, h, [], [], [], _, _, _, _, _ => ⟨trivial, rfl, rfl, by simp [resCells]⟩
 | .cell t :: rs, n, h, v :: vs, d :: ds, os, ⟨h1, h2⟩, hd, ho, hl, hm => by
  obtain ⟨i1, i2, i3, i4⟩ := resCells_ok hF (n := n + 1) (h := h) h2 (fun i d' hi => by
   have := hd (i + 1) d' (by simpa using hi)
   rw [show n + 1 + i = n + (i + 1) from by omega]; exact this) ho hl hm
  refine ⟨⟨⟨d, ?_, h1⟩, i1⟩, i2, by simp [i3], i4⟩
  have := hd 0 d rfl;simpa [Atom.get] using this
 | .own k :: rs, n, h, v :: vs, d :: ds, o :: os, ⟨h0, h1, h2⟩, hd, ho, hl, hm => by
  obtain ⟨i1, i2, i3, i4⟩ := resCells_ok hF (n := n + 1) (h := h + 1) h2 (fun i d' hi => by
   have := hd (i + 1) d' (by simpa using hi)
   rw [show n + 1 + i = n + (i + 1) from by omega]; exact this)
   (fun j u hj => by have := ho (j + 1) u (by simpa using hj); rw [show h + 1 + j = h + (j + 1) from by omega]; exact this) (by simp at hl; omega) (fun u hu => hm u (by simp [hu]))
  have hv : μ' h = o := by have := ho 0 o rfl; simpa using this
  have hdn : ρ'[n]? = some d := by have := hd 0 d rfl; simpa using this
  refine ⟨⟨?_, i1⟩, by simp [resCells, i2], by simp [i3], ?_⟩
  ·rw [← h0]; exact h1.cv (by simp at hl; omega) hv
  ·intro j sb hj
   cases j with
   | zero =>
    simp only [resCells, List.getElem?_cons_zero, Option.some.injEq] at hj;subst hj;simp only [Nat.add_zero, hv];exact OwnK.blk h1 hF hdn (hm o (by simp))
   | succ j =>
    simp only [resCells, List.getElem?_cons_succ] at hj;have := i4 j sb hj;rw [show h + 1 + j = h + (j + 1) from by omega] at this
    exact this
theorem resAll_ok {F0 : Nat → Prop} (hF : ∀ b, F0 b → F' b) : ∀ {rs : List (Bool × List RK)} {n h : Nat} {vs : List Value} {ds : List D} {os : List MV}, ResAll w' F0 rs vs ds os → (∀ (i : Nat) d, ds[i]? = some d → ρ'[n + i]? = some d) →
  (∀ (j : Nat) u, os[j]? = some u → μ' (h + j) = u) → h + os.length ≤ hl' → (∀ u ∈ os, ∀ b, u.own b → Mine b) →
  TVR w' F' hl' μ' ρ' (resAll rs n h).1 vs ∧ (resAll rs n h).2.length = os.length ∧ ds.length = resCount rs ∧ ∀ (j : Nat) sb, (resAll rs n h).2[j]? = some sb → BlkR Mine w' F' hl' μ' ρ' sb (μ' (h + j))
 | [], n, h, [], ds, os, ⟨h1, h2⟩, _, _, _, _ => by subst h1 h2; exact ⟨trivial, rfl, rfl, by simp [resAll]⟩
 | (ag, rks) :: r, n, h, v :: vs, ds, os, ⟨d1, d2, o1, o2, h1, h2, h3, h4⟩, hd, ho, hl, hm => by
  subst h1 h2
  have hd1 : ∀ (i : Nat) d, d1[i]? = some d → ρ'[n + i]? = some d := fun i d hi => hd i d (by
   rw [List.getElem?_append_left]; exact hi
   rcases Nat.lt_or_ge i d1.length with h' | h'
   ·exact h'
   ·rw [List.getElem?_eq_none h'] at hi; cases hi)
  have ho1 : ∀ (j : Nat) u, o1[j]? = some u → μ' (h + j) = u := fun j u hj => ho j u (by
   rw [List.getElem?_append_left]; exact hj
   rcases Nat.lt_or_ge j o1.length with h' | h'
   ·exact h'
   ·rw [List.getElem?_eq_none h'] at hj; cases hj)
  have hP : PVR w' F' hl' μ' ρ' ag (resCells rks n h).1 v ∧ (resCells rks n h).2.length = o1.length ∧ d1.length = rks.length ∧ ∀ (j : Nat) sb, (resCells rks n h).2[j]? = some sb → BlkR Mine w' F' hl' μ' ρ' sb (μ' (h + j)) := by
   have hl1 : h + o1.length ≤ hl' := by simp at hl; omega
   have hm1 : ∀ u ∈ o1, ∀ b, u.own b → Mine b := fun u hu => hm u (by simp [hu])
   cases ag with
   | true =>
    obtain ⟨arr, e, hc⟩ := h3;obtain ⟨i1, i2, i3, i4⟩ := resCells_ok (F' := F') hF hc hd1 ho1 hl1 hm1;exact ⟨⟨arr, e, i1⟩, i2, i3, i4⟩
   | false =>
    obtain ⟨hlen, hc⟩ := h3;obtain ⟨i1, i2, i3, i4⟩ := resCells_ok (F' := F') hF hc hd1 ho1 hl1 hm1;refine ⟨?_, i2, i3, i4⟩;have hl1 := i1.length;simp only [List.length_cons, List.length_nil] at hl1;obtain ⟨c, hc⟩ := List.length_eq_one_iff.1 hl1;rw [hc] at i1;exact ⟨c, hc, i1.1⟩
  obtain ⟨p1, p2, p3, p4⟩ := hP
  obtain ⟨q1, q2, q4, q3⟩ := resAll_ok hF (n := n + rks.length) (h := h + (resCells rks n h).2.length) h4 (fun i d hi => by
    have := hd (d1.length + i) d (by rw [List.getElem?_append_right (by omega)]; simpa using hi)
    rw [← p3, Nat.add_assoc]; exact this)
   (fun j u hj => by
    have := ho (o1.length + j) u (by rw [List.getElem?_append_right (by omega)]; simpa using hj)
    rw [p2, Nat.add_assoc]; exact this) (by simp at hl; omega) (fun u hu => hm u (by simp [hu]))
  refine ⟨⟨p1, q1⟩, by show ((resCells rks n h).2 ++ (resAll r _ _).2).length = _; rw [List.length_append, q2, p2, List.length_append], ?_, ?_⟩
  ·rw [List.length_append, p3, q4]; simp [resCount]
  intro j sb hj;simp only [resAll] at hj
  rcases Nat.lt_or_ge j (resCells rks n h).2.length with hlt | hge
  ·rw [List.getElem?_append_left hlt] at hj
   exact p4 j sb hj
  ·rw [List.getElem?_append_right hge] at hj
   have := q3 _ sb hj;rw [show h + (resCells rks n h).2.length + (j - (resCells rks n h).2.length) = h + j from by omega] at this
   exact this
end
def updMA (μ : Mu) : List MA → List MV → List (Nat × MV)
 | [], _ => []
 | a :: as, ks =>
  if a.keep = false then updMA μ as ks else
  match ks with
  | [] => []
  | k :: ks => (a.β, match a.at?, k.hist with | none, _ :: _ => ⟨(μ a.β).v, (μ a.β).hist ++ [k.inner]⟩ | _, _ => μ a.β) :: updMA μ as ks
section
variable {X : Nat → Prop} {M : Hand} {w0 w w' : World} {S : SS} {μ μ' : Mu} {ρ ρ1 : List D} {a : Act} {F' : Nat → Prop} {hl' : Nat} {Mine : Nat → Prop}
structure CallOk (X : Nat → Prop) (M : Hand) (w0 w w' : World) (S : SS) (μ : Mu) (ρ : List D) (a : Act) (ρ0 : List D) (masA : List MA) (hsA : List HM) : Prop where
 r : R X M w0 S μ ρ a w
 pre : ∃ σ, ρ0 = ρ ++ σ
 hms : HMs μ ρ0 masA hsA
 ok : ∀ ma ∈ masA, MAok S ma
 nd : (masA.map MA.β).Nodup
 same : ∀ b, b < w.heap.size → (∀ x ∈ hsA, ¬ x.m.own b) → w'.heap[b]? = w.heap[b]?
 size : w.heap.size ≤ w'.heap.size
theorem MAok.live {ma : MA} (h : MAok S ma) : live S.heap ma.β := by
 obtain ⟨sb, h1, h2, _⟩ := h
 exact ⟨sb, h1, fun e => by subst e; have := fit_mine h2; cases this⟩
theorem nodup_map_inj {α : Type} {g : α → Nat} : ∀ {l : List α}, (l.map g).Nodup → ∀ {i j : Nat} {x y : α}, l[i]? = some x → l[j]? = some y → g x = g y → i = j
 | [], _, i, _, _, _, hi, _, _ => by simp at hi
 | z :: l, h, i, j, x, y, hi, hj, e => by
  simp only [List.map_cons, List.nodup_cons, List.mem_map, not_exists, not_and] at h
  cases i with
  | zero =>
   cases j with
   | zero => rfl
   | succ j =>
    simp only [List.getElem?_cons_zero, Option.some.injEq, List.getElem?_cons_succ] at hi hj;subst hi;exact absurd e.symm (h.1 y (List.mem_of_getElem? hj))
  | succ i =>
   cases j with
   | zero =>
    simp only [List.getElem?_cons_zero, Option.some.injEq, List.getElem?_cons_succ] at hi hj;subst hj;exact absurd e (h.1 x (List.mem_of_getElem? hi))
   | succ j =>
    simp only [List.getElem?_cons_succ] at hi hj;rw [nodup_map_inj h.2 hi hj e]
variable {ρ0 : List D} {masA : List MA} {hsA : List HM}
theorem CallOk.whose (c : CallOk X M w0 w w' S μ ρ a ρ0 masA hsA) {i : Nat} {ma : MA} (hi : masA[i]? = some ma) {x : HM} (hx : x ∈ hsA) {b : Nat} (hb : x.m.own b) (hβ : (μ ma.β).own b) : hsA[i]? = some x := by
 obtain ⟨j, hj⟩ := List.getElem?_of_mem hx
 obtain ⟨ma', hma', hok⟩ := c.hms.get hj
 have ho := hok.own hb
 by_cases he : ma'.β = ma.β
 ·rw [nodup_map_inj c.nd hi hma' he.symm]; exact hj
 ·exact absurd hβ (c.r.inj ma'.β ma.β (c.ok ma' (List.mem_of_getElem? hma')).live (c.ok ma (List.mem_of_getElem? hi)).live he b ho)
theorem afterMA_ok {F0 : Nat → Prop} (hF : ∀ b, F0 b → F' b) (c : CallOk X M w0 w w' S μ ρ a ρ0 masA hsA) (hMine : ∀ β sb, S.heap[β]? = some sb → mineB sb = true → ∀ b, (μ β).own b → Mine b) :
  ∀ {mas : List MA} {hs : List HM} {off n q : Nat} {h h' : List SB} {post : List Push} {ρ1 ρ2 : List D} {ks : List MV} {ds2 : List D},
   (∀ (i : Nat) ma, mas[i]? = some ma → masA[off + i]? = some ma) → (∀ (i : Nat) x, hs[i]? = some x → hsA[off + i]? = some x) → mas.length = hs.length →
   afterMA mas n q h = (h', post) → (∀ ma ∈ mas, h[ma.β]? = S.heap[ma.β]?) → KeptR w' F0 hs ds2 ks → (∀ (j : Nat) d, ds2[j]? = some d → ρ1[n + j]? = some d) → (∃ σ, ρ1 = ρ0 ++ σ) → ρ1.length = q → pushAll post ρ1 = some ρ2 →
   (∀ k ∈ ks, ∀ b, k.own b → Mine b) →
   h'.length = h.length ∧ (∀ β, β ∉ mas.map MA.β → h'[β]? = h[β]?) ∧ (∀ ma ∈ mas, ma.keep = false → h'[ma.β]? = some .dead) ∧ (∀ ma ∈ mas, ma.keep = true → ∃ m, (ma.β, m) ∈ updMA μ mas ks) ∧
    ∀ p ∈ updMA μ mas ks, ∃ sb, h'[p.1]? = some sb ∧ BlkR Mine w' F' hl' μ' ρ2 sb p.2
 | [], hs, off, n, q, h, h', post, ρ1, ρ2, ks, ds2, _, _, _, ha, _, _, _, _, _, _, _ => by simp only [afterMA, Prod.mk.injEq] at ha;obtain ⟨rfl, rfl⟩ := ha;exact ⟨rfl, fun _ _ => rfl, by simp, by simp, by simp [updMA]⟩
 | ma :: mas, [], off, n, q, h, h', post, ρ1, ρ2, ks, ds2, _, _, hl, _, _, _, _, _, _, _, _ => by simp at hl
 | ma :: mas, x :: hs, off, n, q, h, h', post, ρ1, ρ2, ks, ds2, hA, hB, hl, ha, hh, hk, hd, hρ, hq, hp, hm => by
  have hA0 := hA 0 ma rfl;have hB0 := hB 0 x rfl;simp only [Nat.add_zero] at hA0 hB0;have hA' : ∀ (i : Nat) ma', mas[i]? = some ma' → masA[off + 1 + i]? = some ma' := fun i ma' hi => by have := hA (i + 1) ma' (by simpa using hi); rw [show off + 1 + i = off + (i + 1) from by omega]; exact this
  have hB' : ∀ (i : Nat) y, hs[i]? = some y → hsA[off + 1 + i]? = some y := fun i y hi => by have := hB (i + 1) y (by simpa using hi); rw [show off + 1 + i = off + (i + 1) from by omega]; exact this
  have hll : mas.length = hs.length := by simpa using hl
  have hne : ∀ ma' ∈ mas, ma'.β ≠ ma.β := fun ma' hm' e => by obtain ⟨i, hi⟩ := List.getElem?_of_mem hm';have := nodup_map_inj c.nd (hA' i ma' hi) hA0 e;omega
  obtain ⟨ma0, hma0, hok0⟩ := c.hms.get hB0;rw [hA0] at hma0;simp only [Option.some.injEq] at hma0;subst hma0;obtain ⟨hk1, hk2, hk3⟩ := hok0;have hlive := (c.ok ma (List.mem_of_getElem? hA0)).live;have hh0 := hh ma (by simp)
  have fin : ∀ {sb : SB} {m : MV} {h1 h1' : List SB} {n1 q1 : Nat} {post1 : List Push} {ρ11 : List D} {ks1 : List MV} {ds21 : List D}, h1 = h.set ma.β sb → afterMA mas n1 q1 h1 = (h1', post1) → h1' = h' → KeptR w' F0 hs ds21 ks1 →
    (∀ (j : Nat) d, ds21[j]? = some d → ρ11[n1 + j]? = some d) → (∃ σ, ρ11 = ρ0 ++ σ) → ρ11.length = q1 → pushAll post1 ρ11 = some ρ2 → (∀ k ∈ ks1, ∀ b, k.own b → Mine b) →
    h'.length = h.length ∧ (∀ β, β ∉ (ma :: mas).map MA.β → h'[β]? = h[β]?) ∧ (∀ ma' ∈ mas, ma'.keep = false → h'[ma'.β]? = some .dead) ∧ (∀ ma' ∈ mas, ma'.keep = true → ∃ m, (ma'.β, m) ∈ updMA μ mas ks1) ∧
     (∀ p ∈ updMA μ mas ks1, ∃ sb, h'[p.1]? = some sb ∧ BlkR Mine w' F' hl' μ' ρ2 sb p.2) ∧ h'[ma.β]? = some sb := by
   intro sb m h1 h1' n1 q1 post1 ρ11 ks1 ds21 e1 e2 e3 e4 e5 e6 e7 e8 e9;subst e1 e3;obtain ⟨i1, i2, i3, i4, i5⟩ := afterMA_ok hF c hMine hA' hB' hll e2 (fun ma' hm' => by rw [List.getElem?_set_ne (fun e => hne ma' hm' e.symm)]; exact hh ma' (by simp [hm'])) e4 e5 e6 e7 e8 e9
   refine ⟨by simpa using i1, fun β hβ => ?_, i3, i4, i5, ?_⟩
   ·simp only [List.map_cons, List.mem_cons, not_or] at hβ
    rw [i2 β hβ.2, List.getElem?_set_ne (fun e => hβ.1 e.symm)]
   ·rw [i2 ma.β (fun e => ?_)]
    ·rw [List.getElem?_set_self]
     have := live_lt hlive;obtain ⟨sb', hs', _⟩ := hlive;rw [← hh0] at hs';exact (List.getElem?_eq_some_iff.1 hs').1
    ·obtain ⟨ma', h1, h2⟩ := List.mem_map.1 e
     exact hne ma' h1 h2
  unfold afterMA at ha
  cases hkeep : ma.keep with
  | false =>
   rw [if_pos hkeep] at ha;have hk' : KeptR w' F0 hs ds2 ks := by unfold KeptR at hk;rw [hk2, hkeep] at hk;simpa using hk
   obtain ⟨i1, i2, i3, i4, i5, i6⟩ := fin (m := μ ma.β) rfl ha rfl hk' hd hρ hq hp hm;have hu : updMA μ (ma :: mas) ks = updMA μ mas ks := by rw [updMA.eq_def]; simp only [if_pos hkeep]
   rw [hu];refine ⟨i1, i2, fun ma' hm' hf => ?_, fun ma' hm' hf => ?_, i5⟩
   ·rcases List.mem_cons.1 hm' with rfl | hm'
    ·exact i6
    ·exact i3 ma' hm' hf
   ·rcases List.mem_cons.1 hm' with rfl | hm'
    ·rw [hkeep] at hf; cases hf
    ·exact i4 ma' hm' hf
  | true =>
   rw [if_neg (by rw [hkeep]; simp)] at ha
   have hk' := hk;unfold KeptR at hk';rw [hk2, hkeep, if_pos rfl] at hk';obtain ⟨d, d2, k, k2, rfl, rfl, hkv, hko, hkr⟩ := hk';have hd0 : ρ1[n]? = some d := by have := hd 0 d rfl; simpa using this
   have hdn : ∀ (j : Nat) e, d2[j]? = some e → ρ1[n + 1 + j]? = some e := fun j e hj => by have := hd (j + 1) e (by simpa using hj); rw [show n + 1 + j = n + (j + 1) from by omega]; exact this
   have hm2 : ∀ u ∈ k2, ∀ b, u.own b → Mine b := fun u hu => hm u (by simp [hu])
   have hmk := hm k (by simp)
   have close : ∀ {sb : SB} {m : MV}, updMA μ (ma :: mas) (k :: k2) = (ma.β, m) :: updMA μ mas k2 → BlkR Mine w' F' hl' μ' ρ2 sb m →
     (h'.length = h.length ∧ (∀ β, β ∉ (ma :: mas).map MA.β → h'[β]? = h[β]?) ∧ (∀ ma' ∈ mas, ma'.keep = false → h'[ma'.β]? = some .dead) ∧ (∀ ma' ∈ mas, ma'.keep = true → ∃ m, (ma'.β, m) ∈ updMA μ mas k2) ∧
     (∀ p ∈ updMA μ mas k2, ∃ sb, h'[p.1]? = some sb ∧ BlkR Mine w' F' hl' μ' ρ2 sb p.2) ∧ h'[ma.β]? = some sb) →
     h'.length = h.length ∧ (∀ β, β ∉ (ma :: mas).map MA.β → h'[β]? = h[β]?) ∧ (∀ ma' ∈ ma :: mas, ma'.keep = false → h'[ma'.β]? = some .dead) ∧ (∀ ma' ∈ ma :: mas, ma'.keep = true → ∃ m, (ma'.β, m) ∈ updMA μ (ma :: mas) (k :: k2)) ∧
      ∀ p ∈ updMA μ (ma :: mas) (k :: k2), ∃ sb, h'[p.1]? = some sb ∧ BlkR Mine w' F' hl' μ' ρ2 sb p.2 := by
    intro sb m hu hbl ⟨i1, i2, i3, i4, i5, i6⟩;rw [hu];refine ⟨i1, i2, fun ma' hm' hf => ?_, fun ma' hm' hf => ?_, fun p hp' => ?_⟩
    ·rcases List.mem_cons.1 hm' with rfl | hm'
     ·rw [hkeep] at hf; cases hf
     ·exact i3 ma' hm' hf
    ·rcases List.mem_cons.1 hm' with rfl | hm'
     ·exact ⟨m, by simp⟩
     ·obtain ⟨m', h1⟩ := i4 ma' hm' hf
      exact ⟨m', by simp [h1]⟩
    ·rcases List.mem_cons.1 hp' with rfl | hp'
     ·exact ⟨sb, i6, hbl⟩
     ·exact i5 p hp'
   have getp : ∀ {post1 : List Push} {ρ11 : List D} {j : Nat} {e : D}, pushAll post1 ρ11 = some ρ2 → ρ11[j]? = some e → (Atom.v j).get ρ2 = some e := by intro post1 ρ11 j e h1 h2;obtain ⟨σ, rfl, _⟩ := pushAll_env h1;exact Atom.get_append (x := .v j) h2
   have hu : updMA μ (ma :: mas) (k :: k2) = (ma.β, match ma.at?, k.hist with | none, _ :: _ => ⟨(μ ma.β).v, (μ ma.β).hist ++ [k.inner]⟩ | _, _ => μ ma.β) :: updMA μ mas k2 := by rw [updMA.eq_def]; simp only [hkeep]; rfl
   obtain ⟨sbS, hsbS, hfit, _⟩ := c.ok ma (List.mem_of_getElem? hA0);have hblk := c.r.blocks ma.β sbS hsbS;have hmn := hMine ma.β sbS hsbS (fit_mine hfit);rw [hh0, hsbS] at ha;rw [hk1] at hko
   cases hat : ma.at? with
   | none =>
    rw [hat] at ha hk3 hu hfit
    dsimp only at ha
    obtain ⟨hv, hin⟩ := hk3;have hkv' : k.v = (μ ma.β).v := hkv.trans hv
    cases hkk : ma.k with
    | map mk => rw [hkk] at hfit; cases sbS <;> exact hfit.elim
    | box ts =>
     rw [hkk] at hfit hko
     cases sbS <;> first | exact hfit.elim | skip
     rename_i ts' y;have hfit : ts = ts' := hfit;subst hfit;obtain ⟨hh1, _⟩ := id hko;obtain ⟨h0, _⟩ := hblk;have hkm : k = μ ma.β := by
      cases k with
      | mk kv kh =>
       simp only at hh1 hkv';subst hh1 hkv';have : (μ ma.β) = ⟨(μ ma.β).v, (μ ma.β).hist⟩ := rfl;rw [this, h0]
     rw [hh1] at hu;refine close (sb := (MK.box ts).sb 0 (.v n)) hu ?_ (fin (m := μ ma.β) rfl (by rw [← hkk]; exact ha) rfl hkr hdn hρ hq hp hm2)
     have hb := OwnK.blk (F' := F') (hl' := hl') (μ' := μ') (x := .v n) hko hF (getp hp hd0) hmk;rw [hkm] at hb;exact hb
    | rows et f e =>
     rw [hkk] at hfit hko
     cases sbS <;> first | exact hfit.elim | skip
     rename_i et' f' e' ver y;obtain ⟨rfl, rfl, rfl⟩ := hfit;obtain ⟨hh1, m, ls, h1, rfl, h4, h5, h6⟩ := id hko;obtain ⟨h0, _⟩ := hblk;obtain ⟨l0, hl0⟩ := List.length_eq_one_iff.1 hh1;have hinn : (MV.mk (μ ma.β).v ((μ ma.β).hist ++ [k.inner])).inner = k.inner := by simp [MV.inner]
     rw [hl0] at hu;refine close (sb := .rows et f e (ver + 1) (.v n)) hu ?_ (fin (m := μ ma.β) rfl ha rfl hkr hdn hρ hq hp hm2);refine ⟨by simp [h0], m, ls, ?_, fun b hb => hmk b ?_, getp hp hd0, h4, ?_, ?_⟩
     ·rw [hinn]; rw [← hkv']; exact h1
     ·rcases hb with hb | hb
      ·exact .inl (by rw [hkv']; exact hb)
      ·exact .inr (by rw [hinn] at hb; exact hb)
     ·rw [hinn]; exact h5
     ·rw [hinn]; rw [← hkv']; exact h6
    | row t e =>
     rw [hkk] at hfit hko
     cases sbS <;> first | exact hfit.elim | skip
     rename_i t' e' y;obtain ⟨rfl, rfl⟩ := hfit;obtain ⟨hh1, _⟩ := id hko;obtain ⟨h0, _⟩ := hblk;have hkm : k = μ ma.β := by
      cases k with
      | mk kv kh =>
       simp only at hh1 hkv';subst hh1 hkv';have : (μ ma.β) = ⟨(μ ma.β).v, (μ ma.β).hist⟩ := rfl;rw [this, h0]
     rw [hh1] at hu;refine close (sb := (MK.row t e).sb 0 (.v n)) hu ?_ (fin (m := μ ma.β) rfl (by rw [← hkk]; exact ha) rfl hkr hdn hρ hq hp hm2)
     have hb := OwnK.blk (F' := F') (hl' := hl') (μ' := μ') (x := .v n) hko hF (getp hp hd0) hmk;rw [hkm] at hb;exact hb
   | some i =>
    rw [hat] at ha hk3 hu hfit
    dsimp only at ha
    obtain ⟨_, hxh, nn, hi, hnn, hrow⟩ := hk3
    cases hkk : ma.k with
    | rows et f e => rw [hkk] at hfit; exact hfit.elim
    | map mk => rw [hkk] at hfit; exact hfit.elim
    | box ts => rw [hkk] at hfit; exact hfit.elim
    | row t f =>
     rw [hkk] at hfit hko
     cases sbS <;> first | exact hfit.elim | skip
     rename_i et f' e ver y;obtain ⟨rfl, rfl⟩ := hfit
     dsimp only at ha
     cases hrec : afterMA mas (n + 1) (q + 1) (h.set ma.β (.rows et f e ver (.v q))) with
     | mk hr pr =>
     rw [hrec] at ha;simp only [Prod.mk.injEq] at ha;obtain ⟨rfl, rfl⟩ := ha;obtain ⟨h0, m, ls, h1, _, h3, h4, h5, h6, h7⟩ := hblk;obtain ⟨kh0, kn, kxs, kl, g1, rfl, g3, g4⟩ := id hko;obtain ⟨σ1, rfl⟩ := hρ;obtain ⟨σ0, rfl⟩ := c.pre;have hy : y.get (ρ ++ σ0 ++ σ1) = some (rowsDat et.agg ls) := Atom.get_append (Atom.get_append h3);have hi' := Atom.get_append (σ := σ1) hi;have hnl : nn.toNat < ls.length := by rw [← h5.1]; exact (List.getElem?_eq_some_iff.1 hrow).1
     simp only [pushAll, evs, List.map_cons, List.map_nil, Atom.ev_of_get hy, Atom.ev_of_get hi', Atom.ev_of_get (x := .v n) hd0, rowsDat, Prim.ev, List.length_map] at hp;rw [if_pos ⟨hnn, by omega⟩] at hp
     simp only at hp;have hset : (ls.map fun l => D.lst (l.map (unflat et.agg))).set nn.toNat (.lst (kl.map (unflat (rowAgg (.s1 et))))) = (ls.set nn.toNat kl).map fun l => D.lst (l.map (unflat et.agg)) := by rw [List.map_set]; rfl
     rw [hset] at hp;have hkh : k.hist = [] := kh0;rw [hkh] at hu;have hq1 : (ρ ++ σ0 ++ σ1 ++ [D.lst ((ls.set nn.toNat kl).map fun l => D.lst (l.map (unflat et.agg)))]).length = q + 1 := by simp at hq ⊢; omega
     have hnew : (ρ ++ σ0 ++ σ1 ++ [D.lst ((ls.set nn.toNat kl).map fun l => D.lst (l.map (unflat et.agg)))])[q]? = some (rowsDat et.agg (ls.set nn.toNat kl)) := by
      have := get_new (ρ := ρ ++ σ0 ++ σ1) (n := q) (d := D.lst ((ls.set nn.toNat kl).map fun l => D.lst (l.map (unflat et.agg)))) hq
      exact this
     refine close (sb := .rows et f e ver (.v q)) hu ?_ (fin (m := μ ma.β) rfl hrec rfl hkr (fun j e hj => ?_) ⟨σ1 ++ [D.lst ((ls.set nn.toNat kl).map fun l => D.lst (l.map (unflat et.agg)))], by simp⟩ hq1 hp hm2)
     ·
      have hxin : x ∈ hsA := List.mem_of_getElem? hB0;have hxown : ∀ b, x.m.own b ↔ blkOf x.m.v = some b := fun b => MV.own_flat hxh
      have other : ∀ b, (μ ma.β).own b → blkOf x.m.v ≠ some b → w'.heap[b]? = w.heap[b]? := by
       intro b hb hne;refine c.same b (c.r.own_lt hlive hb) fun z hz hzb => hne ?_
       have := c.whose hA0 hz hzb hb;rw [hB0] at this;simp only [Option.some.injEq] at this;subst this;exact (hxown b).1 hzb
      have hkx : k.v = x.m.v := hkv;refine ⟨h0, m, ls.set nn.toNat kl, ownsRow_kept h1 (fun b hb => other b (.inl hb) fun e => h7 _ (List.mem_of_getElem? hrow) b e hb), hmn, getp hp hnew, by simpa using h4, ⟨by simpa using h5.1, fun i' u l hu' hl' => ?_⟩, h6, h7⟩
      rw [List.getElem?_set] at hl';split at hl'
      ·rename_i he
       subst he;simp only [Option.some.injEq] at hl';subst hl';rw [hrow] at hu';simp only [Option.some.injEq] at hu';subst hu';rw [← hkx];exact ⟨kn, kxs, g1, g3, g4⟩
      ·rename_i he
       obtain ⟨n', xs', r1, r2⟩ := h5.2 i' u l hu' hl';refine ⟨n', xs', ownsRow_kept r1 fun b hb => other b (.inr ⟨u, List.mem_of_getElem? hu', hb⟩) fun e => ?_, r2⟩
       exact h6 i' nn.toNat u _ hu' hrow (fun e => he e.symm) b hb e
     ·rw [List.getElem?_append_left]
      ·exact hdn j e hj
      ·rcases Nat.lt_or_ge (n + 1 + j) (ρ ++ σ0 ++ σ1).length with h' | h'
       ·exact h'
       ·have := hdn j e hj; rw [List.getElem?_eq_none h'] at this; cases this
end
end Vs

namespace Vs
open Go Go.RowKit
section
variable {P : Program} {X : Nat → Prop} {M : Hand} {w0 w w' : World} {S : SS} {μ μ' : Mu} {ρ : List D} {a : Act}
theorem lop_place {XE : FuncId → Option Ext} {g : Guard} {o : Oper} {r : Loc} {v : SV} {ps : List Push} {ρ' : List D} (hX : ExtOk P XE) (h : lop P XE S g o = .ok r) (he : ownPlace S.n g r = (v, ps)) (hR : R X M w0 S μ ρ a w)
  (hg : g.ok ρ = true) (hp : pushAll ps ρ = some ρ') : ∃ u w', (execOp a.eval o).run P w = .ok (.value u) w' ∧ Quiet w w' ∧ SVR w (Fz X S.heap μ w) S.heap.length μ ρ' v u := by
 obtain ⟨v0, ps0⟩ := r
 unfold ownPlace at he
 split at he
 ·rename_i t x e
  simp only [Prod.mk.injEq] at he e;obtain ⟨rfl, rfl⟩ := he;obtain ⟨rfl, rfl⟩ := e;obtain ⟨u, w', h1, h2, d, hx, hd⟩ := lop_ok hX h hR hg (ρ' := ρ) rfl;obtain ⟨d', hd', rfl⟩ := pushAll_one hp;simp only [evs, List.map_cons, List.map_nil, Atom.ev_of_get hx, Prim.ev, Option.some.injEq] at hd';subst hd';exact ⟨u, w', h1, h2, _, get_new hR.len, hd⟩
 ·simp only [Prod.mk.injEq] at he
  obtain ⟨rfl, rfl⟩ := he;exact lop_ok hX h hR hg hp
structure Fr (S : SS) (μ : Mu) (w : World) (a : Act) (dst : Option Nat) (tch : List Nat) (S' : SS) (μ' : Mu) (a' : Act) (w' : World) : Prop where
 act : ∃ u, a' = a.put dst u
 move : Move S μ w tch S'.heap μ' w'
 drawn : w.drawn ≤ w'.drawn
theorem Move.none (hh : w'.heap = w.heap) (h1 : w'.os = w.os) (h2 : w'.tape = w.tape) (h3 : w'.output = w.output) : Move S μ w [] S.heap μ w' where
 tlive := by simp
 len := Nat.le_refl _
 same := fun _ _ _ => ⟨rfl, rfl⟩
 mu := fun _ _ => ⟨rfl, [], by simp⟩
 os := h1
 tape := h2
 output := h3
 size := by rw [hh]; exact Nat.le_refl _
 blk := fun b _ _ => by rw [hh]
 own := fun β hl h => by
  rcases h with h | h
  ·simp at h
  ·have := live_lt hl; omega
 inj := fun β γ hl _ h => by
  rcases h with h | h
  ·simp at h
  ·have := live_lt hl; omega
def StepOk (P : Program) (X : Nat → Prop) (M : Hand) (w0 : World) (S : SS) (μ : Mu) (S' : SS) (o : Oper) (tch : List Nat) (a : Act) (w : World) (ρ' : List D) : Prop :=
 ∀ (K : Act → World → Prop) (Q : Exit → Act → World → Prop), (∀ μ' a' w', R X M w0 S' μ' ρ' a' w' → Fr S μ w a o.dst tch S' μ' a' w' → K a' w') → o.wp P a w K Q
theorem step_value {S' : SS} {o : Oper} {tch : List Nat} {ρ' : List D} {u : Value} (hr : (execOp a.eval o).run P w = .ok (.value u) w') (hR : R X M w0 S' μ' ρ' (a.put o.dst u) w')
  (hf : Move S μ w tch S'.heap μ' w') : StepOk P X M w0 S μ S' o tch a w ρ' := by
 intro K Q hK
 unfold Oper.wp
 rw [hr]
 exact hK _ _ _ hR ⟨⟨_, rfl⟩, hf, drawn_le _ hr⟩
theorem step_skip {S' : SS} {o : Oper} {tch : List Nat} {ρ' : List D} (hr : (execOp a.eval o).run P w = .ok .skip w') (hR : R X M w0 S' μ' ρ' (a.put o.dst Go.undef) w')
  (hf : Move S μ w tch S'.heap μ' w') : StepOk P X M w0 S μ S' o tch a w ρ' := by
 intro K Q hK
 unfold Oper.wp
 rw [hr]
 exact hK _ _ _ hR ⟨⟨_, rfl⟩, hf, drawn_le _ hr⟩
def HopOk (P : Program) (X : Nat → Prop) (M : Hand) (w0 : World) (S : SS) (μ : Mu) (o : Oper) (a : Act) (w : World) (ρ' : List D) (v : SV) (heap' : List SB) (tch : List Nat) : Prop :=
 ∃ nx u μ' w', (execOp a.eval o).run P w = .ok nx w' ∧ (nx = .value u ∨ (nx = .skip ∧ u = Go.undef)) ∧ Move S μ w tch heap' μ' w' ∧
  (∀ β sb, heap'[β]? = some sb → (β ∈ tch ∨ S.heap.length ≤ β) → BlkR (fun b => w0.heap.size ≤ b ∨ M b) w' (Fz X heap' μ' w') heap'.length μ' ρ' sb (μ' β)) ∧
  SVR w' (Fz X heap' μ' w') heap'.length μ' ρ' v u
theorem hop_step {o : Oper} {v : SV} {heap' : List SB} {tch : List Nat} {σ : List D} (h : HopOk P X M w0 S μ o a w (ρ ++ σ) v heap' tch) (hR : R X M w0 S μ ρ a w) {slots : List SV} (hp : put S o.dst v = .ok slots) :
  StepOk P X M w0 S μ { n := S.n + σ.length, slots, heap := heap' } o tch a w (ρ ++ σ) := by
 obtain ⟨nx, u, μ', w', h1, h2, h3, h4, h5⟩ := h
 have hR1 := R_env hR σ
 have m1 : Move { S with n := S.n + σ.length } μ w tch heap' μ' w' := ⟨h3.tlive, h3.len, h3.same, h3.mu, h3.os, h3.tape, h3.output, h3.size, h3.blk, h3.own, h3.inj⟩
 have hR2 := R_move hR1 m1 (drawn_le _ h1) (fun _ => h4)
 have hR3 := R_put (dst := o.dst) (v := v) (u := u) (slots := slots) hR2 (by exact hp) h5
 rcases h2 with rfl | ⟨rfl, rfl⟩
 ·exact step_value h1 hR3 h3
 ·exact step_skip h1 hR3 h3
theorem Move.fresh {tch : List Nat} {heap1 : List SB} {sb : SB} {m : MV} (ht : ∀ γ, γ ∈ tch → ∃ sb, S.heap[γ]? = some sb ∧ mineB sb = true) (hl : heap1.length = S.heap.length) (hs : ∀ β, β ∉ tch → heap1[β]? = S.heap[β]?)
  (hdead : ∀ γ, γ ∈ tch → heap1[γ]? = some .dead) (h1 : w'.os = w.os) (h2 : w'.tape = w.tape) (h3 : w'.output = w.output) (hsz : w.heap.size ≤ w'.heap.size)
  (hblk : ∀ b, b < w.heap.size → (∀ γ, γ ∈ tch → ¬ (μ γ).own b) → w'.heap[b]? = w.heap[b]?) (hown : ∀ b, m.own b → w.heap.size ≤ b ∨ ∃ γ, γ ∈ tch ∧ (μ γ).own b) :
  Move S μ w tch (heap1 ++ [sb]) (fun β => if β < S.heap.length then μ β else m) w' := by
 have hnew : ∀ β, live (heap1 ++ [sb]) β → (β ∈ tch ∨ S.heap.length ≤ β) → β = S.heap.length := by
  intro β hlv h;have hlt := live_lt hlv;simp only [List.length_append, List.length_cons, List.length_nil, hl] at hlt
  rcases h with h | h
  ·obtain ⟨s, hs', hd⟩ := hlv
   have hb : β < S.heap.length := by obtain ⟨s0, h0, _⟩ := ht β h;exact (List.getElem?_eq_some_iff.1 h0).1
   rw [List.getElem?_append_left (by omega), hdead β h] at hs'
   simp only [Option.some.injEq] at hs';exact absurd hs'.symm hd
  ·omega
 refine ⟨ht, by simp [hl], fun β hβ hn => ⟨by rw [List.getElem?_append_left (by omega)]; exact hs β hn, by simp [hβ]⟩, fun β hβ => ⟨by simp [hβ], [], by simp [hβ]⟩, h1, h2, h3, hsz, hblk, fun β hlv h b hb => ?_, fun β γ hβ hγ h4 h5 hne => ?_⟩
 ·have := hnew β hlv h
  subst this;simp only [Nat.lt_irrefl, if_false] at hb;exact hown b hb
 ·exact absurd ((hnew β hβ h4).trans (hnew γ hγ h5).symm) hne
theorem box_hop {o : Oper} {cs : List CV} {arr : Array Value} {T : TypeId} (hR : R X M w0 S μ ρ a w) (hr : (execOp a.eval o).run P w = .ok (.value (.pointer (some ⟨w.heap.size, 0, none⟩))) { w with heap := w.heap.push (.cells arr T) })
  (hc : CVRs w (Fz X S.heap μ w) S.heap.length μ ρ cs arr.toList) : HopOk P X M w0 S μ o a w ρ (.c (.s (.vptr S.heap.length 0))) (S.heap ++ [.var cs]) [] := by
 have m : Move S μ w [] (S.heap ++ [.var cs]) (fun β => if β < S.heap.length then μ β else MV.one (.pointer (some ⟨w.heap.size, 0, none⟩))) { w with heap := w.heap.push (.cells arr T) } :=
  Move.fresh (by simp) rfl (fun _ _ => rfl) (by simp) rfl rfl rfl (by simp) (fun b hb _ => by simp only; rw [Array.getElem?_push, if_neg (by omega)]) (fun b hb => by
   rcases hb with hb | ⟨u, hu, _⟩
   ·simp only [MV.one, blkOf, Option.some.injEq] at hb; left; omega
   ·simp [MV.one, MV.inner] at hu)
 refine ⟨_, _, _, _, hr, .inl rfl, m, fun β sb hb h => ?_, ?_⟩
 ·have hge : S.heap.length ≤ β := by
   rcases h with h | h
   ·simp at h
   ·exact h
  rw [List.getElem?_append_right hge] at hb;have hβ : β = S.heap.length := by have := (List.getElem?_eq_some_iff.1 hb).1;simp at this; omega
  subst hβ;simp only [Nat.sub_self, List.getElem?_cons_zero, Option.some.injEq] at hb;subst hb;simp only [Nat.lt_irrefl, if_false];exact ⟨rfl, w.heap.size, arr, T, rfl, .inl hR.keeps.size, by simp, hc.mono (m.grows (X := X) (ρ := ρ))⟩
 ·exact ⟨by simp, w.heap.size, by simp [MV.one], rfl⟩
theorem Move.write {β : Nat} {sb sb' : SB} (hs : S.heap[β]? = some sb) (hm : mineB sb = true) (h1 : w'.os = w.os) (h2 : w'.tape = w.tape) (h3 : w'.output = w.output) (hsz : w'.heap.size = w.heap.size)
  (hblk : ∀ b, ¬ (μ β).own b → w'.heap[b]? = w.heap[b]?) : Move S μ w [β] (S.heap.set β sb') μ w' := by
 have hlt := (List.getElem?_eq_some_iff.1 hs).1
 have only : ∀ γ, live (S.heap.set β sb') γ → (γ ∈ [β] ∨ S.heap.length ≤ γ) → γ = β := by
  intro γ hl h
  rcases h with h | h
  ·simpa using h
  ·have := live_lt hl; simp at this; omega
 refine ⟨fun γ hγ => ?_, by simp, fun γ hγ hn => ⟨?_, rfl⟩, fun _ _ => ⟨rfl, [], by simp⟩, h1, h2, h3, by rw [hsz]; exact Nat.le_refl _, fun b _ hb => hblk b (hb β (by simp)), fun γ hl h b hb => ?_, fun γ δ hγ hδ h4 h5 hne => ?_⟩
 ·simp only [List.mem_singleton] at hγ; subst hγ; exact ⟨sb, hs, hm⟩
 ·rw [List.getElem?_set_ne]; simpa [eq_comm] using hn
 ·have := only γ hl h; subst this; exact .inr ⟨γ, by simp, hb⟩
 ·exact absurd ((only γ hγ h4).trans (only δ hδ h5).symm) hne
theorem store_var_hop {o : Oper} {t : TypeId} {p x : Operand} {β off sz : Nat} {s : SV} {ag : Bool} {vs cs : List CV} (ho : o.op = .store t p x) (hR : R X M w0 S μ ρ a w) (h1 : getSV S p = .ok (.c (.s (.vptr β off)))) (h2 : getSV S x = .ok s) (hz : sizeB P t = some sz)
  (hvs : svCells s = some (ag, vs)) (hcs : S.heap[β]? = some (.var cs)) (hlen : vs.length = sz ∧ off + sz ≤ cs.length ∧ vs.all plainCV = true) :
  HopOk P X M w0 S μ o a w ρ SV.undef (S.heap.set β (.var (cs.take off ++ vs ++ cs.drop (off + sz)))) [β] := by
 have hC := svCells_ok hvs hlen.2.2 (getSV_ok h2 hR.slots)
 obtain ⟨_, b, hb, hpv⟩ := getSV_ok h1 hR.slots
 obtain ⟨h0, b', arr, T, hb', hmine, hheap, hC0⟩ := hR.blocks β _ hcs
 rw [hb] at hb'
 simp only [Value.pointer.injEq, Option.some.injEq, Addr.mk.injEq, and_true] at hb'
 subst hb'
 have hcl := hC0.length
 have hvl := hC.length
 have hone := CVRs_one hlen.2.2 hC
 simp only [Array.length_toList] at hcl hvl
 have hst := run_storeCells_at P b off T (a.eval x).cells.toList 0 arr w hheap (by simp; omega) hone
 simp only [Nat.add_zero] at hst
 have hown : ∀ k, (μ β).own k ↔ b = k := by intro k;rw [MV.own_flat h0, hb];simp [blkOf]
 have m : Move S μ w [β] (S.heap.set β (.var (cs.take off ++ vs ++ cs.drop (off + sz)))) μ (w.setRow b (arr.toList.take off ++ (a.eval x).cells.toList ++ arr.toList.drop (off + (a.eval x).cells.toList.length)).toArray) :=
  Move.write hcs rfl rfl rfl rfl (by simp) fun k hk => setRow_other w b k _ (fun e => hk ((hown k).2 e.symm))
 refine ⟨.skip, Go.undef, μ, _, ?_, .inr ⟨rfl, rfl⟩, m, fun γ sb hγ h => ?_, trivial⟩
 ·have hsz : (a.eval x).cells.size = sz := by omega
  simp [execOp, ho, hpv, Instr.storeAt, Instr.sureAddr, storeVar, sizeB_run hz, hsz] at hst ⊢;simp [hst]
 ·have hγβ : γ = β := by
   rcases h with h | h
   ·simpa using h
   ·have := (List.getElem?_eq_some_iff.1 hγ).1; simp at this; omega
  subst hγβ;rw [List.getElem?_set_self (List.getElem?_eq_some_iff.1 hcs).1] at hγ;simp only [Option.some.injEq] at hγ;subst hγ;have hgr := m.grows (X := X) (ρ := ρ);refine ⟨h0, b, _, T, hb, hmine, setRow_heap w b arr _ T _ hheap, ?_⟩;have e3 : off + (a.eval x).cells.toList.length = off + sz := by simp; omega
  have h9 := (((hC0.take off).append hC).append (hC0.drop (off + sz))).mono hgr;rw [← e3] at h9 ⊢;exact h9
end
end Vs

namespace Vs
open Go Go.RowKit
section
variable {P : Program} {X : Nat → Prop} {M : Hand} {w0 w w' : World} {S : SS} {μ μ' : Mu} {ρ : List D} {a : Act}
theorem resAll_length : ∀ (rs : List (Bool × List RK)) (n h : Nat), (resAll rs n h).1.length = rs.length
 | [], _, _ => rfl
 | (_, rks) :: r, n, h => by simp [resAll, resAll_length r]
theorem updMA_mem {p : Nat × MV} : ∀ {mas : List MA} {ks : List MV}, p ∈ updMA μ mas ks → (∃ ma ∈ mas, ma.β = p.1 ∧ ma.keep = true) ∧ p.2.v = (μ p.1).v ∧ (∃ ext, p.2.hist = (μ p.1).hist ++ ext) ∧
   ∃ k, (p.2 = μ p.1 ∨ (k ∈ ks ∧ p.2.inner = k.inner))
 | [], ks, h => by simp [updMA] at h
 | ma :: mas, ks, h => by
  rw [updMA.eq_def] at h;simp only at h;split at h
  ·obtain ⟨⟨m, h1, h2⟩, h3⟩ := updMA_mem h
   exact ⟨⟨m, by simp [h1], h2⟩, h3⟩
  ·rename_i hk
   have hk : ma.keep = true := by simpa using hk
   cases ks with
   | nil => simp at h
   | cons k ks =>
    simp only [List.mem_cons] at h
    rcases h with rfl | h
    ·refine ⟨⟨ma, by simp, rfl, hk⟩, ?_⟩
     dsimp only
     split
     ·exact ⟨rfl, ⟨_, rfl⟩, k, .inr ⟨by simp, by simp [MV.inner]⟩⟩
     ·exact ⟨rfl, ⟨[], by simp⟩, k, .inl rfl⟩
    ·obtain ⟨⟨m, h1, h2⟩, h3, h4, k', h5⟩ := updMA_mem h
     refine ⟨⟨m, by simp [h1], h2⟩, h3, h4, k', ?_⟩
     rcases h5 with h5 | ⟨h5, h6⟩
     ·exact .inl h5
     ·exact .inr ⟨by simp [h5], h6⟩
def cntK (mas : List MA) (i : Nat) : Nat := ((mas.take i).filter (·.keep)).length
theorem cntK_lt {mas : List MA} : ∀ {i i' : Nat} {ma : MA}, i < i' → mas[i]? = some ma → ma.keep = true → i' ≤ mas.length → cntK mas i < cntK mas i' := by
 induction mas with
 | nil => intro i i' ma _ h; simp at h
 | cons a as ih =>
  intro i i' ma hlt h hk hl
  cases i' with
  | zero => omega
  | succ i' =>
   cases i with
   | zero =>
    simp only [List.getElem?_cons_zero, Option.some.injEq] at h;subst h;simp [cntK, hk]
   | succ i =>
    simp only [List.getElem?_cons_succ] at h;have := ih (i := i) (i' := i') (by omega) h hk (by simpa using hl)
    simp only [cntK, List.take_succ_cons, List.filter_cons] at this ⊢;split <;> simp <;> omega
theorem cntK_inj {mas : List MA} {i i' : Nat} {ma ma' : MA} (h : mas[i]? = some ma) (h' : mas[i']? = some ma') (hk : ma.keep = true) (hk' : ma'.keep = true) (he : cntK mas i = cntK mas i') : i = i' := by
 have l1 := (List.getElem?_eq_some_iff.1 h).1
 have l2 := (List.getElem?_eq_some_iff.1 h').1
 rcases Nat.lt_trichotomy i i' with h1 | h1 | h1
 ·have := cntK_lt h1 h hk (by omega); omega
 ·exact h1
 ·have := cntK_lt h1 h' hk' (by omega); omega
theorem updMA_kept {F0 : Nat → Prop} {ρ0 : List D} {masA : List MA} {hsA : List HM} (c : CallOk X M w0 w w' S μ ρ a ρ0 masA hsA) {p : Nat × MV} :
  ∀ {mas : List MA} {hs : List HM} {off : Nat} {ks : List MV} {ds : List D}, (∀ (i : Nat) ma, mas[i]? = some ma → masA[off + i]? = some ma) → (∀ (i : Nat) x, hs[i]? = some x → hsA[off + i]? = some x) → mas.length = hs.length →
   KeptR w' F0 hs ds ks → p ∈ updMA μ mas ks → ∃ (i : Nat) (ma : MA) (x : HM) (j : Nat) (k : MV), mas[i]? = some ma ∧ hs[i]? = some x ∧ ma.β = p.1 ∧ ks[j]? = some k ∧ (ma.keep = true ∧ j = cntK mas i) ∧
    ∀ b, p.2.own b → k.own b ∨ (ma.at? ≠ none ∧ (μ p.1).own b ∧ ¬ x.m.own b)
 | [], hs, off, ks, ds, _, _, _, _, h => by simp [updMA] at h
 | ma :: mas, [], off, ks, ds, _, _, hl, _, _ => by simp at hl
 | ma :: mas, x :: hs, off, ks, ds, hA, hB, hl, hk, h => by
  have hA0 := hA 0 ma rfl;have hB0 := hB 0 x rfl;simp only [Nat.add_zero] at hA0 hB0;have hA' : ∀ (i : Nat) ma', mas[i]? = some ma' → masA[off + 1 + i]? = some ma' := fun i ma' hi => by have := hA (i + 1) ma' (by simpa using hi); rw [show off + 1 + i = off + (i + 1) from by omega]; exact this
  have hB' : ∀ (i : Nat) y, hs[i]? = some y → hsA[off + 1 + i]? = some y := fun i y hi => by have := hB (i + 1) y (by simpa using hi); rw [show off + 1 + i = off + (i + 1) from by omega]; exact this
  have hll : mas.length = hs.length := by simpa using hl
  obtain ⟨ma0, hma0, hok0⟩ := c.hms.get hB0;rw [hA0] at hma0;simp only [Option.some.injEq] at hma0;subst hma0;obtain ⟨hk1, hk2, hk3⟩ := hok0;rw [updMA.eq_def] at h;simp only at h;split at h
  ·rename_i hkeep
   have hk' : KeptR w' F0 hs ds ks := by unfold KeptR at hk;rw [hk2, hkeep] at hk;simpa using hk
   obtain ⟨i, ma', x', j, k, e1, e2, e3, e4, ⟨e5, e6⟩, e7⟩ := updMA_kept c hA' hB' hll hk' h;exact ⟨i + 1, ma', x', j, k, by simpa using e1, by simpa using e2, e3, e4, ⟨e5, by simp [cntK, hkeep] at e6 ⊢; exact e6⟩, e7⟩
  ·rename_i hkeep
   have hkeep : ma.keep = true := by simpa using hkeep
   unfold KeptR at hk;rw [hk2, hkeep, if_pos rfl] at hk;obtain ⟨d, d2, k, k2, rfl, rfl, hkv, hko, hkr⟩ := hk;simp only [List.mem_cons] at h
   rcases h with rfl | h
   ·refine ⟨0, ma, x, 0, k, rfl, rfl, rfl, rfl, ⟨hkeep, by simp [cntK]⟩, fun b hb => ?_⟩
    rw [hk1] at hko;obtain ⟨sb, hsb, hfit, _⟩ := c.ok ma (List.mem_of_getElem? hA0);have hko0 := hko
    cases hat : ma.at? with
    | none =>
     rw [hat] at hk3 hb hfit;obtain ⟨g1, g2⟩ := hk3
     left
     cases hkk : ma.k with
     | map mk => rw [hkk] at hfit; cases sb <;> exact hfit.elim
     | box ts =>
      rw [hkk] at hko0 hfit;obtain ⟨hh1, _⟩ := hko0;rw [hh1] at hb;have hblk := c.r.blocks ma.β sb hsb
      cases sb <;> first | exact hfit.elim | skip
      have h0 := hblk.1
      left
      rw [hkv, g1];exact (MV.own_flat h0).1 hb
     | rows et f e =>
      rw [hkk] at hko0;obtain ⟨hh1, _⟩ := hko0;obtain ⟨l0, hl0⟩ := List.length_eq_one_iff.1 hh1;rw [hl0] at hb
      rcases hb with hb | hb
      ·left; rw [hkv, g1]; exact hb
      ·right; simpa [MV.inner] using hb
     | row t e =>
      rw [hkk] at hko0 hfit;obtain ⟨hh1, _⟩ := hko0;rw [hh1] at hb;have hblk := c.r.blocks ma.β sb hsb
      cases sb <;> first | exact hfit.elim | skip
      have h0 := hblk.1
      left
      rw [hkv, g1];exact (MV.own_flat h0).1 hb
    | some i =>
     rw [hat] at hk3 hb;obtain ⟨_, hxh, n, _, _, hrow⟩ := hk3
     by_cases hx : x.m.own b
     ·left; left; rw [hkv]; exact (MV.own_flat hxh).1 hx
     ·exact .inr ⟨by simp, hb, hx⟩
   ·obtain ⟨i, ma', x', j, k', e1, e2, e3, e4, ⟨e5, e6⟩, e7⟩ := updMA_kept c hA' hB' hll hkr h
    exact ⟨i + 1, ma', x', j + 1, k', by simpa using e1, by simpa using e2, e3, by simpa using e4, ⟨e5, by simp [cntK, hkeep] at e6 ⊢; exact e6⟩, e7⟩
theorem RdCs_free {F F' : Nat → Prop} : ∀ {ts : List CT} {vs : List Value} {ds : List D}, (∀ t ∈ ts, isBT t = true) → RdCs (RdC w F) ts vs ds → RdCs (RdC w F') ts vs ds
 | [], [], [], _, _ => trivial
 | t :: ts, v :: vs, d :: ds, ht, ⟨h1, h2⟩ => by
  refine ⟨?_, RdCs_free (fun t h => ht t (List.mem_cons_of_mem _ h)) h2⟩
  have := ht t (List.mem_cons_self ..)
  cases t with
  | b t => exact h1
  | s1 _ => cases this
  | s2 _ => cases this
theorem OwnK.free {F F' : Nat → Prop} {k : MK} {m : MV} {d : D} (h : OwnK w F k m d) (hk : k.free = true) : OwnK w F' k m d := by
 cases k with
 | row t e =>
  obtain ⟨h0, n, xs, ls, h1, h2, h3, h4⟩ := h;exact ⟨h0, n, xs, ls, h1, h2, h3, rowRd_s1 hk h4⟩
 | rows et e' e => exact h
 | map mk => exact h
 | box ts =>
  obtain ⟨h0, b, arr, T, ds, h1, h2, h3, h4⟩ := h;exact ⟨h0, b, arr, T, ds, h1, h2, h3, RdCs_free (List.all_eq_true.1 hk) h4⟩
theorem ResCs.conv {F F' : Nat → Prop} : ∀ {rs : List RK} {vs : List Value} {ds : List D} {os : List MV}, ResCs w F rs vs ds os → (∀ x ∈ rs, ∀ k, x = .own k → ∀ m d, OwnK w F k m d → OwnK w F' k m d) → ResCs w F' rs vs ds os
 | [], [], [], [], _, _ => trivial
 | .cell _ :: _, _ :: _, _ :: _, _, ⟨h1, h2⟩, hc => ⟨h1, h2.conv fun x hx => hc x (List.mem_cons_of_mem _ hx)⟩
 | .own k :: _, _ :: _, _ :: _, _ :: _, ⟨h0, h1, h2⟩, hc => ⟨h0, hc _ (List.mem_cons_self ..) k rfl _ _ h1, h2.conv fun x hx => hc x (List.mem_cons_of_mem _ hx)⟩
theorem ResAll.conv {F F' : Nat → Prop} : ∀ {rs : List (Bool × List RK)} {vs : List Value} {ds : List D} {os : List MV}, ResAll w F rs vs ds os → (∀ r ∈ rs, ∀ x ∈ r.2, ∀ k, x = .own k → ∀ m d, OwnK w F k m d → OwnK w F' k m d) → ResAll w F' rs vs ds os
 | [], [], _, _, h, _ => h
 | (ag, rs) :: r, v :: vs, ds, os, ⟨d1, d2, o1, o2, e1, e2, h1, h2⟩, hc => by
  refine ⟨d1, d2, o1, o2, e1, e2, ?_, h2.conv fun x hx => hc x (List.mem_cons_of_mem _ hx)⟩
  cases ag with
  | true => obtain ⟨arr, e, h⟩ := h1; exact ⟨arr, e, h.conv (hc _ (List.mem_cons_self ..))⟩
  | false => exact ⟨h1.1, h1.2.conv (hc _ (List.mem_cons_self ..))⟩
theorem KeptR.conv {F F' : Nat → Prop} : ∀ {hs : List HM} {ds : List D} {ks : List MV}, KeptR w F hs ds ks → (∀ x ∈ hs, ∀ m d, OwnK w F x.k m d → OwnK w F' x.k m d) → KeptR w F' hs ds ks
 | [], _, _, h, _ => h
 | x :: hs, ds, ks, h, hc => by
  unfold KeptR at h ⊢;split
  ·rename_i hk
   rw [if_pos hk] at h;obtain ⟨d, d2, k, k2, e1, e2, h1, h2, h3⟩ := h;exact ⟨d, d2, k, k2, e1, e2, h1, hc x (List.mem_cons_self ..) _ _ h2, h3.conv fun y hy => hc y (List.mem_cons_of_mem _ hy)⟩
  ·rename_i hk
   rw [if_neg hk] at h;exact h.conv fun y hy => hc y (List.mem_cons_of_mem _ hy)
theorem call_ok {f : FuncId} {sg : Sig} {G : List D → Option (List D)} {o : Oper} {g : Guard} {ss : List SV} {vs : List Value} {ar : AR} {hE : List SB} {post : List Push} (hs : SoundCall P f sg G)
  (ho : (execOp a.eval o).run P w = ((callFunc f vs.toArray).run P w)) (h : R X M w0 S μ ρ a w) (hg : g.ok ρ = true) (hgg : ∀ x want, g = some (x, want) → x.get ρ ≠ none)
  (hvs : ss.length = vs.length) (hss : ∀ (j : Nat) s u, ss[j]? = some s → vs[j]? = some u → SVR w (Fz X S.heap μ w) S.heap.length μ ρ s u)
  (h2 : argAll S S.n sg.params ss = .ok ar) (haft : afterMA ar.mas (S.n + ar.pre.length + resCount sg.results) (S.n + ar.pre.length + (resCount sg.results + sg.keeps.length)) S.heap = (hE, post))
  (hnd : (ar.mas.map MA.β).Nodup) (hrd : ∀ β ∈ ar.rds, β ∉ ar.mas.map MA.β) (hfree : callFree sg ar = true)
  {v : SV} (hv : resSV (resAll sg.results (S.n + ar.pre.length) S.heap.length).1 = some v) {slots : List SV} (hp : put S o.dst (wrapG g v) = .ok slots) {σ1 : List D} {ds : List D} {ρ2 : List D} (hpre : pushAll ar.pre ρ = some (ρ ++ σ1))
  (hG : G (evs (ρ ++ σ1) ar.xs) = some ds) (hcount : ds.length = resCount sg.results + sg.keeps.length) (hpost : pushAll post (ρ ++ σ1 ++ ds) = some ρ2) :
  StepOk P X M w0 S μ { n := ρ2.length, slots, heap := hE ++ (resAll sg.results (S.n + ar.pre.length) S.heap.length).2 } o (ar.mas.map MA.β) a w ρ2 := by
 intro K Q hK
 have hpl : σ1.length = ar.pre.length := by obtain ⟨σ, e, hl⟩ := pushAll_env hpre;rw [List.append_cancel_left e]; exact hl
 obtain ⟨mode, hmode⟩ : ∃ mode, mode = (sg.params.all isVal && ar.rds.isEmpty) := ⟨_, rfl⟩
 have hargs0 := argAll_ok (V := mode = false) (σ := []) h (by
  cases mode with
  | false => exact .inr rfl
  | true =>
   have := hmode.symm;simp only [Bool.and_eq_true] at this
   exact .inl this.1) (by simpa [h.len] using h2) hvs hss (by simpa using hpre)
 obtain ⟨hms, b1, b2, b3, b4, b5⟩ := hargs0
 have hlen0 : (ρ ++ σ1).length = S.n + ar.pre.length := by rw [List.length_append, h.len, hpl]
 have hown : ∀ x ∈ hms, ∀ b, x.m.own b → ∃ ma ∈ ar.mas, (μ ma.β).own b := by intro x hx b hb;obtain ⟨i, hi⟩ := List.getElem?_of_mem hx;obtain ⟨ma, hma, hok⟩ := b1.get hi;exact ⟨ma, List.mem_of_getElem? hma, hok.own hb⟩
 have hFz : ∀ b, Fz X S.heap μ w b → Fm w hms b := fun b hb => ⟨hb.1.1, fun x hx ho => by
  obtain ⟨ma, h1, h2⟩ := hown x hx b ho
  exact hb.2 ma.β (b2 ma h1).live h2⟩
 have hdis : ∀ β, live S.heap β → β ∉ ar.mas.map MA.β → ∀ b, (μ β).own b → Fm w hms b := fun β hl hn b hb => ⟨h.own_lt hl hb, fun x hx ho => by
  obtain ⟨ma, h1, h2⟩ := hown x hx b ho
  exact h.inj β ma.β hl (b2 ma h1).live (fun e => hn (by rw [e]; exact List.mem_map.2 ⟨ma, h1, rfl⟩)) b hb h2⟩
 obtain ⟨F0, hF0m, hF0f⟩ : ∃ F0 : Nat → Prop, (mode = true → F0 = Fz X S.heap μ w) ∧ (mode = false → F0 = Fm w hms) := by
  cases mode with
  | true => exact ⟨_, fun _ => rfl, fun h => by cases h⟩
  | false => exact ⟨_, fun h => (by cases h), fun _ => rfl⟩
 have hF0 : ∀ b, F0 b → Fm w hms b := fun b hb => by
  cases hm : mode with
  | true => rw [hF0m hm] at hb; exact hFz b hb
  | false => rw [hF0f hm] at hb; exact hb
 have hz0 : ∀ b, Fz X S.heap μ w b → F0 b := fun b hb => by
  cases hm : mode with
  | true => rw [hF0m hm]; exact hb
  | false => rw [hF0f hm]; exact hFz b hb
 have hd0 : mode = false → ∀ b, Fm w hms b → F0 b := fun hm b hb => by rw [hF0f hm]; exact hb
 have hargs := b5 F0 hz0 (fun β hβ b hb => by
  cases hm : mode with
  | false => exact hd0 hm b (hdis β (b4 β hβ) (hrd β hβ) b hb)
  | true =>
   rw [hm] at hmode;have := hmode.symm;simp only [Bool.and_eq_true, List.isEmpty_iff] at this;rw [this.2] at hβ
   cases hβ) (fun hm β cs hcs b hb => hd0 hm b <| (fun b hb => hdis β ⟨_, hcs, by simp⟩ (fun hm => by
  obtain ⟨ma, h1, h2⟩ := List.mem_map.1 hm;obtain ⟨sb, e1, e2, _⟩ := b2 ma h1;rw [h2, hcs] at e1;simp only [Option.some.injEq] at e1;subst e1
  cases hat : ma.at? <;> cases hk : ma.k <;> rw [hat, hk] at e2 <;> exact e2.elim) b hb) b hb)
 have hmap : MApart (hms.map HM.m) := by
  intro i j m m' hi hj hne b hb hb';rw [List.getElem?_map] at hi hj;obtain ⟨x, hx, rfl⟩ := map_some_eq hi;obtain ⟨y, hy, rfl⟩ := map_some_eq hj;obtain ⟨ma, hma, hok⟩ := b1.get hx;obtain ⟨mb, hmb, hok'⟩ := b1.get hy;refine h.inj ma.β mb.β (b2 ma (List.mem_of_getElem? hma)).live (b2 mb (List.mem_of_getElem? hmb)).live (fun e => hne ?_) b (hok.own hb) (hok'.own hb')
  exact nodup_map_inj hnd hma hmb e
 have hc := hs.calls vs _ hms w ds F0 hF0 hargs hmap hG
 unfold Oper.wp
 rw [ho, hs.enter]
 refine hc.mono fun e w' ⟨u, he, hkeep, us, os, ks, d1, d2, hshape, hds, hres0, hkept0, hnewown, hapart⟩ => ?_
 subst he hds
 have c : CallOk X M w0 w w' S μ ρ a (ρ ++ σ1) ar.mas hms := ⟨h, ⟨σ1, rfl⟩, b1, b2, hnd, fun b hb hn => hkeep.block b hb (fun ⟨x, hx, ho⟩ => hn x hx ho), hkeep.size⟩
 obtain ⟨F1, hF1, hres, hkept⟩ : ∃ F1 : Nat → Prop, (∀ b, F1 b → mode = true ∧ Fres w.heap.size F0 w' hms (os ++ ks) b) ∧ ResAll w' F1 sg.results us d1 os ∧ KeptR w' F1 hms d2 ks := by
  cases hm : mode with
  | true => exact ⟨_, fun b hb => ⟨rfl, hb⟩, hres0, hkept0⟩
  | false =>
   have hf : sg.results.all (fun r => r.2.all RK.free) = true ∧ ar.mas.all (fun m => m.k.free) = true := by unfold callFree at hfree;rw [← hmode, hm, Bool.or_false, Bool.and_eq_true] at hfree;exact hfree
   refine ⟨fun _ => False, fun _ h => h.elim, hres0.conv fun r hr x hx k hk m d h => h.free ?_, hkept0.conv fun x hx m d h => h.free ?_⟩
   ·have h1 := List.all_eq_true.1 hf.1 r hr
    have h2 := List.all_eq_true.1 h1 x hx;subst hk;exact h2
   ·obtain ⟨i, hi⟩ := List.getElem?_of_mem hx
    obtain ⟨ma, hma, hok⟩ := b1.get hi;rw [hok.1];exact List.all_eq_true.1 hf.2 ma (List.mem_of_getElem? hma)
 generalize hupd : updMA μ ar.mas ks = upd at *
 obtain ⟨μ', hμold, hμnew⟩ : ∃ μ' : Mu, (∀ β, β < S.heap.length → μ' β = ((upd.find? fun p => p.1 == β).map (·.2)).getD (μ β)) ∧ ∀ (j : Nat) o, os[j]? = some o → μ' (S.heap.length + j) = o :=
  ⟨fun β => if β < S.heap.length then ((upd.find? fun p => p.1 == β).map (·.2)).getD (μ β) else (os[β - S.heap.length]?).getD (MV.one Go.undef), fun β hb => by simp [hb], fun j o hj => by
   show (if _ then _ else _) = _
   rw [if_neg (by omega), show S.heap.length + j - S.heap.length = j from by omega, hj]; rfl⟩
 have hfind : ∀ {β : Nat}, β < S.heap.length → (μ' β = μ β ∧ ∀ p ∈ upd, p.1 ≠ β) ∨ ∃ p ∈ upd, p.1 = β ∧ μ' β = p.2 := by
  intro β hb;rw [hμold β hb]
  cases hf : upd.find? fun p => p.1 == β with
  | none =>
   left
   refine ⟨by simp, fun p hp e => ?_⟩
   have := List.find?_eq_none.1 hf p hp;simp [e] at this
  | some p =>
   right
   have h1 := List.find?_some hf;simp only [beq_iff_eq] at h1;exact ⟨p, List.mem_of_find?_eq_some hf, h1, by simp⟩
 have hmaLt : ∀ ma ∈ ar.mas, ma.β < S.heap.length := fun ma hm => live_lt (b2 ma hm).live
 have hnl : ∀ (i : Nat) d, (d1 ++ d2)[i]? = some d → (ρ ++ σ1 ++ (d1 ++ d2))[S.n + ar.pre.length + i]? = some d := fun i d hi => by rw [List.getElem?_append_right (by omega), hlen0, show S.n + ar.pre.length + i - (S.n + ar.pre.length) = i from by omega]; exact hi
 obtain ⟨σ3, hρ2, _⟩ := pushAll_env hpost
 have hext2 : ∀ {i : Nat} {d : D}, (ρ ++ σ1 ++ (d1 ++ d2))[i]? = some d → ρ2[i]? = some d := by intro i d hi;rw [hρ2, List.getElem?_append_left (List.getElem?_eq_some_iff.1 hi).1]; exact hi
 have hd1len : d1.length = resCount sg.results := (resAll_ok (F' := fun _ => True) (fun _ _ => trivial) (hl' := S.heap.length + os.length) (μ' := μ') (ρ' := ρ ++ σ1 ++ (d1 ++ d2)) (Mine := fun _ => True) (n := S.n + ar.pre.length) (h := S.heap.length) hres
  (fun i d hi => hnl i d (by rw [List.getElem?_append_left (List.getElem?_eq_some_iff.1 hi).1]; exact hi)) hμnew (Nat.le_refl _) (fun _ _ _ _ => trivial)).2.2.1
 have hblen : (resAll sg.results (S.n + ar.pre.length) S.heap.length).2.length = os.length := (resAll_ok (F' := fun _ => True) (fun _ _ => trivial) (hl' := S.heap.length + os.length) (μ' := μ') (ρ' := ρ ++ σ1 ++ (d1 ++ d2)) (Mine := fun _ => True) (n := S.n + ar.pre.length) (h := S.heap.length) hres
  (fun i d hi => hnl i d (by rw [List.getElem?_append_left (List.getElem?_eq_some_iff.1 hi).1]; exact hi)) hμnew (Nat.le_refl _) (fun _ _ _ _ => trivial)).2.1
 have hfromT : ∀ b, (∃ x ∈ hms, x.m.own b) → ∃ γ, γ ∈ ar.mas.map MA.β ∧ (μ γ).own b := fun b ⟨x, hx, hb⟩ => by obtain ⟨ma, h1, h2⟩ := hown x hx b hb;exact ⟨ma.β, List.mem_map.2 ⟨ma, h1, rfl⟩, h2⟩
 have hMine : ∀ β sb, S.heap[β]? = some sb → mineB sb = true → ∀ b, (μ β).own b → (w0.heap.size ≤ b ∨ M b) := fun β sb h1 h2 b hb => h.mine h1 h2 hb
 have hmineNew : ∀ u ∈ os ++ ks, ∀ b, u.own b → (w0.heap.size ≤ b ∨ M b) := fun u hu b hb => by
  rcases hnewown u hu b hb with h1 | h1
  ·exact .inl (Nat.le_trans h.keeps.size h1)
  ·obtain ⟨x, hx, hxb⟩ := h1
   obtain ⟨ma, h3, h4⟩ := hown x hx b hxb;obtain ⟨sb, e1, e2, _⟩ := b2 ma h3;exact hMine ma.β sb e1 (fit_mine e2) b h4
 have hEs := fun (F' : Nat → Prop) (hF : ∀ b, F1 b → F' b) (hl' : Nat) => afterMA_ok (F' := F') hF (hl' := hl') (μ' := μ') (Mine := fun b => w0.heap.size ≤ b ∨ M b) c hMine (mas := ar.mas) (hs := hms) (off := 0) (ρ1 := ρ ++ σ1 ++ (d1 ++ d2)) (ρ2 := ρ2) (ks := ks) (ds2 := d2)
  (fun i ma hi => by simpa using hi) (fun i x hi => by simpa using hi) b1.length haft (fun _ _ => rfl) hkept
  (fun j d hj => by
   have := hnl (d1.length + j) d (by rw [List.getElem?_append_right (by omega)]; simpa using hj)
   rw [← hd1len, Nat.add_assoc]; exact this)
  ⟨d1 ++ d2, rfl⟩ (by rw [List.length_append, hlen0, hcount]) hpost (fun k hk b hb => hmineNew k (by simp [hk]) b hb)
 have hE0 := hEs (fun _ => True) (fun _ _ => trivial) 0
 rw [hupd] at hE0
 obtain ⟨e1, e2, e3, e4, _⟩ := hE0
 have hturn : ∀ {β : Nat}, live (hE ++ (resAll sg.results (S.n + ar.pre.length) S.heap.length).2) β → β ∈ ar.mas.map MA.β → ∃ p ∈ upd, p.1 = β ∧ μ' β = p.2 := by
  intro β hl hm;obtain ⟨ma, h1, h2⟩ := List.mem_map.1 hm;have hlt := hmaLt ma h1;rw [h2] at hlt
  cases hkp : ma.keep with
  | false =>
   obtain ⟨sb, hsb, hd⟩ := hl;rw [List.getElem?_append_left (by rw [e1]; exact hlt), ← h2, e3 ma h1 hkp] at hsb
   simp only [Option.some.injEq] at hsb;exact absurd hsb.symm hd
  | true =>
   obtain ⟨m, hm'⟩ := e4 ma h1 hkp
   rcases hfind hlt with ⟨_, h5⟩ | h5
   ·exact absurd h2 (h5 _ hm')
   ·exact h5
 have hnewat : ∀ {β : Nat}, live (hE ++ (resAll sg.results (S.n + ar.pre.length) S.heap.length).2) β → S.heap.length ≤ β → ∃ o, os[β - S.heap.length]? = some o ∧ μ' β = o := by
  intro β hl hge;have hlt := live_lt hl;rw [List.length_append, e1, hblen] at hlt;have hj : β - S.heap.length < os.length := by omega
  refine ⟨_, List.getElem?_eq_getElem hj, ?_⟩;have := hμnew _ _ (List.getElem?_eq_getElem hj);rw [show S.heap.length + (β - S.heap.length) = β from by omega] at this
  exact this
 have hkeptOf : ∀ {p : Nat × MV}, p ∈ upd → ∃ (i : Nat) (ma : MA) (x : HM) (j : Nat) (k : MV), ar.mas[i]? = some ma ∧ hms[i]? = some x ∧ ma.β = p.1 ∧ ks[j]? = some k ∧ (ma.keep = true ∧ j = cntK ar.mas i) ∧
    ∀ b, p.2.own b → k.own b ∨ (ma.at? ≠ none ∧ (μ p.1).own b ∧ ¬ x.m.own b) := by
  intro p hp';rw [← hupd] at hp';exact updMA_kept c (mas := ar.mas) (hs := hms) (off := 0) (fun i ma hi => by simpa using hi) (fun i x hi => by simpa using hi) b1.length hkept hp'
 have hupdMem : ∀ {p : Nat × MV}, p ∈ upd → p.1 ∈ ar.mas.map MA.β ∧ p.2.v = (μ p.1).v ∧ ∃ ext, p.2.hist = (μ p.1).hist ++ ext := by intro p hp';rw [← hupd] at hp';obtain ⟨⟨ma, h1, h2, _⟩, h3, h4, _⟩ := updMA_mem hp';exact ⟨List.mem_map.2 ⟨ma, h1, h2⟩, h3, h4⟩
 have m : Move S μ w (ar.mas.map MA.β) (hE ++ (resAll sg.results (S.n + ar.pre.length) S.heap.length).2) μ' w' := by
  refine ⟨fun γ hγ => ?_, by simp [e1], fun β hβ hn => ⟨?_, ?_⟩, fun β hβ => ?_, hkeep.os, hkeep.tape, hkeep.output, hkeep.size, fun b hb hn => ?_, fun β hl ht b hb => ?_, fun β γ hβ hγ tβ tγ hne b hb hb' => ?_⟩
  ·obtain ⟨ma, h1, h2⟩ := List.mem_map.1 hγ
   obtain ⟨sb, g1, g2, _⟩ := b2 ma h1;exact ⟨sb, by rw [← h2]; exact g1, fit_mine g2⟩
  ·rw [List.getElem?_append_left (by rw [e1]; exact hβ), e2 β hn]
  ·rcases hfind hβ with ⟨h5, _⟩ | ⟨p, h5, h6, _⟩
   ·exact h5
   ·exact absurd (by rw [← h6]; exact (hupdMem h5).1) hn
  ·rcases hfind hβ with ⟨h5, _⟩ | ⟨p, h5, h6, h7⟩
   ·rw [h5]; exact ⟨rfl, [], by simp⟩
   ·rw [h7, ← h6]; exact (hupdMem h5).2
  ·refine hkeep.block b hb fun ⟨x, hx, ho⟩ => ?_
   obtain ⟨γ, h5, h6⟩ := hfromT b ⟨x, hx, ho⟩;exact hn γ h5 h6
  ·rcases ht with ht | ht
   ·obtain ⟨p, h5, h6, h7⟩ := hturn hl ht
    rw [h7] at hb;obtain ⟨i, ma, x, j, k, g1, g2, g3, g4, g5, g6⟩ := hkeptOf h5
    rcases g6 b hb with h8 | ⟨_, h8, _⟩
    ·rcases hnewown k (by simp [List.mem_of_getElem? g4]) b h8 with h9 | h9
     ·exact .inl h9
     ·exact .inr (hfromT b h9)
    ·exact .inr ⟨p.1, (hupdMem h5).1, h8⟩
   ·obtain ⟨o, h5, h6⟩ := hnewat hl ht
    rw [h6] at hb
    rcases hnewown o (by simp [List.mem_of_getElem? h5]) b hb with h9 | h9
    ·exact .inl h9
    ·exact .inr (hfromT b h9)
  ·
   have ofT : ∀ {β : Nat}, live (hE ++ (resAll sg.results (S.n + ar.pre.length) S.heap.length).2) β → (β ∈ ar.mas.map MA.β ∨ S.heap.length ≤ β) → ∀ b, (μ' β).own b →
     (∃ (q : Nat) (z : MV), (os ++ ks)[q]? = some z ∧ z.own b ∧ ((S.heap.length ≤ β ∧ q = β - S.heap.length ∧ q < os.length) ∨ (β < S.heap.length ∧ ∃ j, q = os.length + j ∧ ∃ (i : Nat) (ma : MA) (x : HM), ar.mas[i]? = some ma ∧ hms[i]? = some x ∧ ma.β = β ∧ ks[j]? = some z ∧ (ma.keep = true ∧ j = cntK ar.mas i)))) ∨
     (∃ (i : Nat) (ma : MA) (x : HM) (j : Nat) (k : MV), ar.mas[i]? = some ma ∧ hms[i]? = some x ∧ ma.β = β ∧ (μ β).own b ∧ ¬ x.m.own b) := by
    intro β hl ht b hb
    rcases ht with ht | ht
    ·obtain ⟨p, h5, h6, h7⟩ := hturn hl ht
     rw [h7] at hb;obtain ⟨i, ma, x, j, k, g1, g2, g3, g4, g5, g6⟩ := hkeptOf h5;have hlt : β < S.heap.length := by rw [← h6, ← g3]; exact hmaLt ma (List.mem_of_getElem? g1)
     rcases g6 b hb with h8 | ⟨_, h8, h9⟩
     ·exact .inl ⟨os.length + j, k, by rw [List.getElem?_append_right (by omega)]; simpa using g4, h8, .inr ⟨hlt, j, rfl, i, ma, x, g1, g2, g3.trans h6, g4, g5⟩⟩
     ·exact .inr ⟨i, ma, x, j, k, g1, g2, g3.trans h6, by rw [← h6]; exact h8, h9⟩
    ·obtain ⟨o, h5, h6⟩ := hnewat hl ht
     rw [h6] at hb;have hj := (List.getElem?_eq_some_iff.1 h5).1;exact .inl ⟨β - S.heap.length, o, by rw [List.getElem?_append_left hj]; exact h5, hb, .inl ⟨ht, rfl, hj⟩⟩
   have key : ∀ {β γ : Nat}, β ≠ γ → (∃ (q : Nat) (z : MV), (os ++ ks)[q]? = some z ∧ z.own b ∧ ((S.heap.length ≤ γ ∧ q = γ - S.heap.length ∧ q < os.length) ∨ (γ < S.heap.length ∧ ∃ j, q = os.length + j ∧ ∃ (i : Nat) (ma : MA) (x : HM), ar.mas[i]? = some ma ∧ hms[i]? = some x ∧ ma.β = γ ∧ ks[j]? = some z ∧ (ma.keep = true ∧ j = cntK ar.mas i)))) →
     (∃ (i : Nat) (ma : MA) (x : HM) (j : Nat) (k : MV), ar.mas[i]? = some ma ∧ hms[i]? = some x ∧ ma.β = β ∧ (μ β).own b ∧ ¬ x.m.own b) → False := by
    intro β γ hne ⟨q, z, hz, hzb, _⟩ ⟨i, ma, x, j, k, g1, g2, g3, g4, g5⟩;have hl : live S.heap ma.β := (b2 ma (List.mem_of_getElem? g1)).live;rw [← g3] at g4
    rcases hnewown z (List.mem_of_getElem? hz) b hzb with h9 | ⟨y, hy, hyb⟩
    ·have := h.own_lt hl g4; omega
    ·have := c.whose g1 hy hyb g4
     rw [g2] at this;simp only [Option.some.injEq] at this;subst this;exact g5 hyb
   rcases ofT hβ tβ b hb with A | B
   ·rcases ofT hγ tγ b hb' with A' | B'
    ·obtain ⟨q, z, hz, hzb, hq⟩ := A
     obtain ⟨q', z', hz', hzb', hq'⟩ := A'
     by_cases hqq : q = q'
     ·subst hqq
      rcases hq with ⟨p1, p2, p3⟩ | ⟨p1, j, p2, i, ma, x, p3, p4, p5, p6, p7⟩
      ·rcases hq' with ⟨r1, r2, r3⟩ | ⟨r1, j', r2, _⟩
       ·exact hne (by omega)
       ·omega
      ·rcases hq' with ⟨r1, r2, r3⟩ | ⟨r1, j', r2, i', ma', x', r3, r4, r5, r6, r7⟩
       ·omega
       ·
        refine hne ?_;rw [← p5, ← r5];have := cntK_inj p3 r3 p7.1 r7.1 (by rw [← p7.2, ← r7.2]; omega)
        subst this;rw [p3] at r3;simp only [Option.some.injEq] at r3;rw [r3]
     ·exact hapart q q' z z' hz hz' hqq b hzb hzb'
    ·exact key hne.symm A B'
   ·rcases ofT hγ tγ b hb' with A' | B'
    ·exact key hne A' B
    ·obtain ⟨i, ma, x, j, k, g1, g2, g3, g4, g5⟩ := B
     obtain ⟨i', ma', x', j', k', g1', g2', g3', g4', g5'⟩ := B';exact h.inj β γ (by rw [← g3]; exact (b2 ma (List.mem_of_getElem? g1)).live) (by rw [← g3']; exact (b2 ma' (List.mem_of_getElem? g1')).live) hne b g4 g4'
 have hFr : ∀ b, F1 b → Fz X (hE ++ (resAll sg.results (S.n + ar.pre.length) S.heap.length).2) μ' w' b := by
  intro b hb1;obtain ⟨hm, hfr, hlt, hno⟩ := hF1 b hb1;refine ⟨⟨hlt, fun hx => ?_⟩, fun β hl ho => ?_⟩
  ·rcases hfr with hfr | hfr | hfr
   ·have := h.ex b hx; omega
   ·obtain ⟨γ, h5, h6⟩ := hfromT b hfr
    exact h.exo γ (m.liveOld h5) b h6 hx
   ·rw [hF0m hm] at hfr
    exact hfr.1.2 hx
  ·by_cases ht : β ∈ ar.mas.map MA.β ∨ S.heap.length ≤ β
   ·rcases ht with ht | ht
    ·obtain ⟨p, h5, h6, h7⟩ := hturn hl ht
     rw [h7] at ho;obtain ⟨i, ma, x, j, k, g1, g2, g3, g4, g5, g6⟩ := hkeptOf h5
     rcases g6 b ho with h8 | ⟨_, h8, h9⟩
     ·exact hno k (by simp [List.mem_of_getElem? g4]) h8
     ·have hlv : live S.heap ma.β := (b2 ma (List.mem_of_getElem? g1)).live
      rw [← g3] at h8
      rcases hfr with hfr | ⟨y, hy, hyb⟩ | hfr
      ·have := h.own_lt hlv h8; omega
      ·have := c.whose g1 hy hyb h8
       rw [g2] at this;simp only [Option.some.injEq] at this;subst this;exact h9 hyb
      ·rw [hF0m hm] at hfr
       exact hfr.2 ma.β hlv h8
    ·obtain ⟨o, h5, h6⟩ := hnewat hl ht
     rw [h6] at ho;exact hno o (by simp [List.mem_of_getElem? h5]) ho
   ·obtain ⟨l1, e9⟩ := m.untouched hl ht
    rw [e9] at ho
    rcases hfr with hfr | hfr | hfr
    ·have := h.own_lt l1 ho; omega
    ·obtain ⟨γ, h5, h6⟩ := hfromT b hfr
     exact h.inj γ β (m.liveOld h5) l1 (fun e => ht (.inl (by rw [← e]; exact h5))) b h6 ho
    ·rw [hF0m hm] at hfr
     exact hfr.2 β l1 ho
 have hlen2 : ρ2.length = (ρ ++ σ1 ++ (d1 ++ d2) ++ σ3).length := by rw [hρ2]
 obtain ⟨τ, hτ⟩ : ∃ τ, ρ2 = ρ ++ τ := ⟨σ1 ++ (d1 ++ d2) ++ σ3, by rw [hρ2]; simp⟩
 have hR1 := R_env h τ
 rw [← hτ] at hR1
 have hn2 : S.n + τ.length = ρ2.length := by rw [hτ, List.length_append, h.len]
 rw [hn2] at hR1
 have m1 : Move { S with n := ρ2.length } μ w (ar.mas.map MA.β) (hE ++ (resAll sg.results (S.n + ar.pre.length) S.heap.length).2) μ' w' := ⟨m.tlive, m.len, m.same, m.mu, m.os, m.tape, m.output, m.size, m.blk, m.own, m.inj⟩
 generalize hheap : hE ++ (resAll sg.results (S.n + ar.pre.length) S.heap.length).2 = heap' at *
 have hl' : heap'.length = S.heap.length + (resAll sg.results (S.n + ar.pre.length) S.heap.length).2.length := by rw [← hheap, List.length_append, e1]
 obtain ⟨r1, r2, _, r3⟩ := resAll_ok (F' := Fz X heap' μ' w') hFr (hl' := heap'.length) (μ' := μ') (ρ' := ρ2) (Mine := fun b => w0.heap.size ≤ b ∨ M b) (n := S.n + ar.pre.length) (h := S.heap.length) hres
  (fun i d hi => hext2 (hnl i d (by rw [List.getElem?_append_left (List.getElem?_eq_some_iff.1 hi).1]; exact hi))) hμnew (by rw [hl', hblen]; exact Nat.le_refl _) (fun u hu b hb => hmineNew u (by simp [hu]) b hb)
 have hR2 := R_move hR1 m1 hkeep.drawn (fun _ β sb hb ht => by
  rcases Nat.lt_or_ge β S.heap.length with hlt | hge
  ·have hβ : β ∈ ar.mas.map MA.β := by
    rcases ht with ht | ht
    ·exact ht
    ·exact absurd ht (by simpa using hlt)
   by_cases hd : sb = .dead
   ·subst hd; trivial
   ·obtain ⟨p, h5, h6, h7⟩ := hturn ⟨sb, hb, hd⟩ hβ
    have hE1 := hEs (Fz X heap' μ' w') hFr heap'.length;rw [hupd] at hE1;obtain ⟨_, _, _, _, e5⟩ := hE1;obtain ⟨sb', g1, g2⟩ := e5 p h5;rw [h6] at g1;rw [← hheap, List.getElem?_append_left (by rw [e1]; exact hlt), g1] at hb
    simp only [Option.some.injEq] at hb;subst hb;rw [h7];exact g2
  ·rw [← hheap, List.getElem?_append_right (by rw [e1]; exact hge), e1] at hb
   have := r3 _ sb hb;rw [show S.heap.length + (β - S.heap.length) = β from by omega] at this
   exact this)
 have hR3 := R_put (dst := o.dst) (v := wrapG g v) (u := u) (slots := slots) hR2 (by exact hp) (by
  have hgg' : ∀ x want, g = some (x, want) → x.get ρ2 ≠ none := fun x want e => by
   have := hgg x want e
   cases hx : x.get ρ with
   | none => exact absurd hx this
   | some d => rw [hτ, Atom.get_append hx]; simp
  refine wrapG_ok hgg' (by rw [hτ, guard_append hgg]; exact hg) ?_
  unfold resSV at hv;have hrl := resAll_length sg.results (S.n + ar.pre.length) S.heap.length;split at hv
  ·rename_i ag cs e
   rw [e] at hrl r1;have hrl1 : sg.results.length = 1 := hrl.symm;rw [if_pos hrl1] at hshape;subst hshape;have hPV := r1.1;unfold mkSV at hv
   cases ag with
   | true => simp only [if_true, Option.some.injEq] at hv; subst hv; exact hPV
   | false =>
    obtain ⟨c', rfl, hc'⟩ := hPV;simp only [Bool.false_eq_true, if_false, Option.some.injEq] at hv;subst hv;exact hc'
  ·rename_i hne
   have hrl2 : sg.results.length ≠ 1 := by intro e;rw [e] at hrl;obtain ⟨⟨ag, cs⟩, hq⟩ := List.length_eq_one_iff.1 hrl;exact hne ag cs hq
   rw [if_neg hrl2] at hshape;simp only [Option.some.injEq] at hv;subst hv hshape
   exact ⟨_, rfl, by simpa using r1⟩)
 exact hK _ _ _ hR3 ⟨⟨u, rfl⟩, m, hkeep.drawn⟩
end
end Vs

namespace Vs
open Go Go.RowKit
section
variable {P : Program} {X : Nat → Prop} {M : Hand} {w0 w w' : World} {S : SS} {μ μ' : Mu} {ρ : List D} {a : Act}
structure ElemOk (P : Program) (e : TypeId) (et : ET) (i : TypeInfo) (z : Value) : Prop where
 info : P.info? e = some i
 ety : etOf P e = some et
 size : i.size = et.cells.length
 pos : 0 < i.size
 few : i.size ≤ 64
 bytes : i.bytes ≤ 64
 zero : i.zero = some z
 zs : z.cells.size = i.size
theorem elemOk_ok {e : TypeId} {et : ET} (h : elemOk P e et = true) : ∃ i z, ElemOk P e et i z := by
 unfold elemOk at h
 split at h
 ·rename_i i hi
  simp only [Bool.and_eq_true, decide_eq_true_eq] at h;obtain ⟨⟨⟨⟨h1, h2⟩, h3⟩, h4⟩, h5⟩ := h;split at h5
  ·rename_i z hz
   exact ⟨i, z, hi, h1, h2, h3.1, h3.2, h4, hz, by simpa using h5⟩
  ·cases h5
 ·cases h
structure ElemSl (P : Program) (e : TypeId) (et : ET) (e' : TypeId) (i : TypeInfo) : Prop where
 info : P.info? e = some i
 und : P.underlying e = some (.slice e')
 size : i.size = 1
 bytes : i.bytes ≤ 64
 zero : i.zero = some (.slice none 0 0)
 el : elemOk P e' et = true
theorem elemSl_ok {e e' : TypeId} {et : ET} (h : elemSl P e et e' = true) : ∃ i, ElemSl P e et e' i := by
 unfold elemSl at h
 split at h
 ·rename_i i hi
  simp only [Bool.and_eq_true, decide_eq_true_eq] at h;obtain ⟨⟨⟨⟨h1, h2⟩, h3⟩, h4⟩, h5⟩ := h;refine ⟨i, hi, ?_, h2, h3, ?_, h5⟩
  ·split at h1
   ·rename_i x hx; simp only [beq_iff_eq] at h1; rw [hx, h1]
   ·cases h1
  ·split at h4
   ·assumption
   ·cases h4
 ·cases h
theorem mkOf_ok {t : TypeId} {k : MK} (h : mkOf P t = some k) : (∃ et e, k = .row (.s1 et) e ∧ P.underlying t = some (.slice e) ∧ elemOk P e et = true) ∨ (∃ et e' e, k = .rows et e' e ∧ P.underlying t = some (.slice e) ∧ elemSl P e et e' = true) := by
 unfold mkOf at h
 split at h
 ·rename_i e he
  split at h
  ·split at h
   ·split at h
    ·rename_i hs; simp only [Option.some.injEq] at h; exact .inr ⟨_, _, _, h.symm, he, hs⟩
    ·cases h
   ·cases h
  ·split at h
   ·split at h
    ·rename_i hs; simp only [Option.some.injEq] at h; exact .inl ⟨_, _, h.symm, he, hs⟩
    ·cases h
   ·cases h
 ·cases h
theorem cellAtoms0_ok {F : Nat → Prop} {hl : Nat} : ∀ {ts : List BT} {cs : List CV} {xs : List Atom} {vs : List Value}, elemPush.cellAtoms0 ts cs = .ok xs → CVRs w F hl μ ρ cs vs →
  cs.all plainCV = true ∧ (∀ x ∈ xs, x.get ρ ≠ none) ∧ RdCs RdB ts vs (evs ρ xs)
 | [], [], xs, [], h, _ => by simp only [elemPush.cellAtoms0, Except.ok.injEq] at h; subst h; exact ⟨rfl, by simp, trivial⟩
 | t :: ts, c :: cs, xs, v :: vs, h, ⟨h1, h2⟩ => by
  unfold elemPush.cellAtoms0 at h;split at h
  ·rename_i heq _; cases heq
  ·rename_i t0 ts0 t' x cs0 heq heq2
   simp only [List.cons.injEq] at heq heq2;obtain ⟨rfl, rfl⟩ := heq;obtain ⟨rfl, rfl⟩ := heq2;split at h
   ·rename_i ht
    subst ht;obtain ⟨ys, g1, g2⟩ := bind_ok h;simp only [Except.ok.injEq] at g2;subst g2;obtain ⟨i1, i2, i3⟩ := cellAtoms0_ok g1 h2;obtain ⟨d, hx, hd⟩ := h1;refine ⟨by simp [plainCV, i1], fun y hy => ?_, ?_⟩
    ·rcases List.mem_cons.1 hy with rfl | hy
     ·rw [hx]; simp
     ·exact i2 y hy
    ·refine ⟨?_, i3⟩
     show RdB t v (x.ev ρ);rw [Atom.ev_of_get hx];exact hd
   ·cases h
  ·cases h
 | [], _ :: _, _, _, h, _ => by simp [elemPush.cellAtoms0] at h
 | _ :: _, [], _, _, h, _ => by simp [elemPush.cellAtoms0] at h
theorem elemPush_ok {F : Nat → Prop} {hl : Nat} {et : ET} {cs : List CV} {x : Atom} {ps : List Push} {vs : List Value} {σ ρ' : List D} (h : elemPush (ρ ++ σ).length et cs = .ok (x, ps)) (hc : CVRs w F hl μ ρ cs vs) (hp : pushAll ps (ρ ++ σ) = some ρ') :
  cs.all plainCV = true ∧ ∃ l, RdCs RdB et.cells vs l ∧ x.get ρ' = some (unflat et.agg l) := by
 unfold elemPush at h
 obtain ⟨xs, g1, g2⟩ := bind_ok h
 obtain ⟨i1, i2, i3⟩ := cellAtoms0_ok g1 hc
 refine ⟨i1, evs ρ xs, i3, ?_⟩
 split at g2
 ·rename_i ha
  simp only [Except.ok.injEq, Prod.mk.injEq] at g2;obtain ⟨rfl, rfl⟩ := g2;obtain ⟨d, hd, rfl⟩ := pushAll_one hp;rw [evs_app i2] at hd;simp only [Prim.ev, Option.some.injEq] at hd;subst hd;rw [get_new rfl];simp [unflat, ha]
 ·rename_i ha
  split at g2
  ·rename_i y
   simp only [Except.ok.injEq, Prod.mk.injEq] at g2;obtain ⟨rfl, rfl⟩ := g2;simp only [pushAll, Option.some.injEq] at hp;subst hp
   cases e : y.get ρ with
   | none => exact absurd e (i2 y (by simp))
   | some d => rw [Atom.get_append e]; simp [unflat, ha, evs, Atom.ev_of_get e]
  ·cases g2
theorem elemsPush_ok {F : Nat → Prop} {hl : Nat} {et : ET} : ∀ {ss : List SV} {us : List Value} {σ : List D} {xs : List Atom} {ps : List Push} {ρ' : List D}, elemsPush et (ρ ++ σ).length ss = .ok (xs, ps) → ss.length = us.length →
  (∀ (j : Nat) s u, ss[j]? = some s → us[j]? = some u → SVR w F hl μ ρ s u) → pushAll ps (ρ ++ σ) = some ρ' →
  (∀ x ∈ xs, x.get ρ' ≠ none) ∧ (∀ u ∈ us, u.cells.size = et.cells.length) ∧ ∃ ls, evs ρ' xs = ls.map (unflat et.agg) ∧ ls.length = us.length ∧ RdRow RdB et.cells (us.flatMap fun v => v.cells.toList) ls
 | [], [], σ, xs, ps, ρ', h, _, _, hp => by simp only [elemsPush, Except.ok.injEq, Prod.mk.injEq] at h;obtain ⟨rfl, rfl⟩ := h;exact ⟨by simp, by simp, [], rfl, rfl, rfl⟩
 | s :: ss, u :: us, σ, xs, ps, ρ', h, hl', hs, hp => by
  simp only [elemsPush] at h;split at h
  ·rename_i ag cs hcs
   split at h
   ·rename_i hag
    obtain ⟨⟨x, p⟩, g1, h⟩ := bind_ok h
    dsimp only at h
    obtain ⟨⟨ys, q⟩, g2, h⟩ := bind_ok h;simp only [Except.ok.injEq, Prod.mk.injEq] at h;obtain ⟨rfl, rfl⟩ := h;obtain ⟨σ1, q1, q2, q3⟩ := push_split hp;have e : (ρ ++ σ).length + p.length = (ρ ++ (σ ++ σ1)).length := by simp [q2]; omega
    rw [e] at g2;rw [List.append_assoc] at q3;obtain ⟨σ2, rfl, _⟩ := pushAll_env q3;have hu := hs 0 s u rfl rfl;obtain ⟨cl, hcells⟩ : ∃ cl, elemPush.cellAtoms0 et.cells cs = .ok cl := by unfold elemPush at g1;obtain ⟨xs, k1, _⟩ := bind_ok g1;exact ⟨xs, k1⟩
    have hplain : cs.all plainCV = true := by
     have : ∀ {ts : List BT} {cs : List CV} {xs : List Atom}, elemPush.cellAtoms0 ts cs = .ok xs → cs.all plainCV = true := by
      intro ts
      induction ts with
      | nil => intro cs xs h; cases cs with
       | nil => rfl
       | cons c cs => simp [elemPush.cellAtoms0] at h
      | cons t ts ih =>
       intro cs xs h
       cases cs with
       | nil => simp [elemPush.cellAtoms0] at h
       | cons c cs =>
        unfold elemPush.cellAtoms0 at h;split at h
        ·rename_i heq _; cases heq
        ·rename_i heq heq2
         simp only [List.cons.injEq] at heq heq2;obtain ⟨rfl, rfl⟩ := heq;obtain ⟨rfl, rfl⟩ := heq2;split at h
         ·obtain ⟨ys, g1, _⟩ := bind_ok h
          simp [plainCV, ih g1]
         ·cases h
        ·cases h
     exact this hcells
    have hC := svCells_ok hcs hplain hu;obtain ⟨_, l, hl1, hl2⟩ := elemPush_ok g1 hC q1;obtain ⟨i1, i2, ls, i3, i4, i5⟩ := elemsPush_ok g2 (by simpa using hl') (fun j s u h1 h2 => hs (j + 1) s u (by simpa using h1) (by simpa using h2)) q3
    have hxg : x.get (ρ ++ (σ ++ σ1) ++ σ2) = some (unflat et.agg l) := by have := Atom.get_append (σ := σ2) hl2;simpa using this
    refine ⟨fun y hy => ?_, fun v hv => ?_, l :: ls, ?_, by simp [i4], ?_⟩
    ·rcases List.mem_cons.1 hy with rfl | hy
     ·rw [hxg]; simp
     ·exact i1 y hy
    ·rcases List.mem_cons.1 hv with rfl | hv
     ·have := hl1.length.1; simpa using this
     ·exact i2 v hv
    ·have e2 : evs (ρ ++ (σ ++ σ1) ++ σ2) (x :: ys) = x.ev (ρ ++ (σ ++ σ1) ++ σ2) :: evs (ρ ++ (σ ++ σ1) ++ σ2) ys := rfl
     rw [e2, i3, Atom.ev_of_get hxg];rfl
    ·exact ⟨_, _, by simp, hl1, i5⟩
   ·cases h
  ·cases h
 | [], _ :: _, _, _, _, _, _, hl, _, _ => by simp at hl
 | _ :: _, [], _, _, _, _, _, hl, _, _ => by simp at hl
theorem fresh_row {o : Oper} {σ : List D} {et : ET} {e : TypeId} {x : Atom} {u : Value} {n : Nat} {xs : List Value} {ls : List (List D)} (hR : R X M w0 S μ ρ a w) (hr : (execOp a.eval o).run P w = .ok (.value u) w')
  (h1 : w'.os = w.os) (h2 : w'.tape = w.tape) (h3 : w'.output = w.output) (hsz : w.heap.size ≤ w'.heap.size) (hblk : ∀ b, b < w.heap.size → w'.heap[b]? = w.heap[b]?) (hfr : ∀ b, blkOf u = some b → w.heap.size ≤ b)
  (hown : w'.ownsRow 0 e et.cells.length u n xs) (hn : ls.length = n) (hrd : RdRow RdB et.cells xs ls) (hx : x.get (ρ ++ σ) = some (.lst (ls.map (unflat et.agg)))) :
  HopOk P X M w0 S μ o a w (ρ ++ σ) (.c (.s (.own S.heap.length))) (S.heap ++ [.row (.s1 et) e x]) [] := by
 have m : Move S μ w [] (S.heap ++ [.row (.s1 et) e x]) (fun β => if β < S.heap.length then μ β else MV.one u) w' :=
  Move.fresh (by simp) rfl (fun _ _ => rfl) (by simp) h1 h2 h3 hsz (fun b hb _ => hblk b hb) (fun b hb => by
   rcases hb with hb | ⟨u, hu, _⟩
   ·exact .inl (hfr b hb)
   ·simp [MV.one, MV.inner] at hu)
 refine ⟨_, _, _, _, hr, .inl rfl, m, fun β sb hb h => ?_, ?_⟩
 ·have hge : S.heap.length ≤ β := by
   rcases h with h | h
   ·simp at h
   ·exact h
  rw [List.getElem?_append_right hge] at hb;have hβ : β = S.heap.length := by have := (List.getElem?_eq_some_iff.1 hb).1;simp at this; omega
  subst hβ;simp only [Nat.sub_self, List.getElem?_cons_zero, Option.some.injEq] at hb;subst hb;simp only [Nat.lt_irrefl, if_false];refine ⟨rfl, n, xs, ls, hown, fun b hb => .inl (Nat.le_trans hR.keeps.size (hfr b ((MV.own_flat rfl).1 hb))), hx, hn, hrd⟩
 ·obtain ⟨ad, cap, e'⟩ := ownsRow_slice hown
  exact ⟨by simp, by simp [MV.one], ad, n, cap, by simp [MV.one, e']⟩
theorem alloc_old {o : Obj} {b : Nat} (hb : b < w.heap.size) : (w.alloc o).heap[b]? = w.heap[b]? := by rw [show (w.alloc o).heap = w.heap.push o from rfl, Array.getElem?_push, if_neg (by omega)]
theorem ownRows_ok (hR : R X M w0 S μ ρ a w) {et : ET} {e' : TypeId} : ∀ {ss : List SV} {bs : List Nat} {xs : List Atom} {us : List Value}, ownRows S et e' ss = .ok (bs, xs) → ss.length = us.length →
  (∀ (j : Nat) s u, ss[j]? = some s → us[j]? = some u → SVR w (Fz X S.heap μ w) S.heap.length μ ρ s u) →
  (∀ β ∈ bs, ∃ sb, S.heap[β]? = some sb ∧ mineB sb = true) ∧ bs.length = us.length ∧ (∀ (j : Nat) u, us[j]? = some u → ∃ β, bs[j]? = some β ∧ (u = (μ β).v ∧ (μ β).hist = []) ∧ ∃ a len cap, u = .slice a len cap) ∧
   ∃ ls : List (List (List D)), evs ρ xs = ls.map (fun l => D.lst (l.map (unflat et.agg))) ∧ ls.length = us.length ∧ RowsD w et e' us ls
 | [], bs, xs, [], h, _, _ => by simp only [ownRows, Except.ok.injEq, Prod.mk.injEq] at h;obtain ⟨rfl, rfl⟩ := h;exact ⟨by simp, rfl, by simp, [], rfl, rfl, rfl, by simp⟩
 | s :: ss, bs, xs, u :: us, h, hl, hs => by
  unfold ownRows at h;split at h
  ·rename_i heq; cases heq
  ·rename_i β vs heq
   simp only [List.cons.injEq] at heq;obtain ⟨rfl, rfl⟩ := heq;split at h
   ·rename_i t e x hb
    split at h
    ·rename_i ht
     obtain ⟨rfl, rfl⟩ := ht;obtain ⟨⟨bs', xs'⟩, g1, g2⟩ := bind_ok h;simp only [Except.ok.injEq, Prod.mk.injEq] at g2;obtain ⟨rfl, rfl⟩ := g2;obtain ⟨i1, i2, i3, ls, i4, i5, i6⟩ := ownRows_ok hR g1 (us := us) (by simpa using hl) (fun j s u h1 h2 => hs (j + 1) s u (by simpa using h1) (by simpa using h2))
     obtain ⟨_, rfl, hsl⟩ := hs 0 _ u rfl rfl;obtain ⟨h0, n, ys, l, k1, k2, k3, k4, k5⟩ := hR.blocks β _ hb;refine ⟨fun γ hγ => ?_, by simp [i2], fun j u hj => ?_, l :: ls, ?_, by simp [i5], by simpa using i6.1, fun j u' l' hj hl' => ?_⟩
     ·rcases List.mem_cons.1 hγ with rfl | hγ
      ·exact ⟨_, hb, rfl⟩
      ·exact i1 γ hγ
     ·cases j with
      | zero => simp only [List.getElem?_cons_zero, Option.some.injEq] at hj; subst hj; exact ⟨β, rfl, ⟨rfl, h0⟩, hsl⟩
      | succ j => simp only [List.getElem?_cons_succ] at hj ⊢; exact i3 j u hj
     ·show x.ev ρ :: evs ρ xs' = _
      rw [i4, Atom.ev_of_get k3]; rfl
     ·cases j with
      | zero =>
       simp only [List.getElem?_cons_zero, Option.some.injEq] at hj hl';subst hj hl';exact ⟨n, ys, k1, k4, k5⟩
      | succ j => simp only [List.getElem?_cons_succ] at hj hl'; exact i6.2 j u' l' hj hl'
    ·cases h
   ·cases h
  ·cases h
 | [], _, _, _ :: _, _, hl, _ => by simp at hl
 | _ :: _, _, _, [], _, hl, _ => by simp at hl
theorem killAll_get : ∀ {bs : List Nat} {h : List SB}, (killAll h bs).length = h.length ∧ (∀ β, β ∉ bs → (killAll h bs)[β]? = h[β]?) ∧ (∀ β, β ∈ bs → β < h.length → (killAll h bs)[β]? = some .dead)
 | [], h => ⟨rfl, fun _ _ => rfl, by simp⟩
 | b :: bs, h => by
  obtain ⟨i1, i2, i3⟩ := killAll_get (bs := bs) (h := h.set b .dead);refine ⟨by simp [killAll] at i1 ⊢; exact i1, fun β hβ => ?_, fun β hβ hlt => ?_⟩
  ·simp only [List.mem_cons, not_or] at hβ
   have := i2 β hβ.2;rw [List.getElem?_set_ne (fun e => hβ.1 e.symm)] at this
   exact this
  ·by_cases hm : β ∈ bs
   ·exact i3 β hm (by simpa using hlt)
   ·have := i2 β hm
    rcases List.mem_cons.1 hβ with rfl | h'
    ·rw [List.getElem?_set_self hlt] at this; exact this
    ·exact absurd h' hm
theorem fresh_rows {o : Oper} {σ : List D} {et : ET} {e' e : TypeId} {x : Atom} {u : Value} {n : Nat} {us : List Value} {ls : List (List (List D))} {bs : List Nat} (hR : R X M w0 S μ ρ a w) (hr : (execOp a.eval o).run P w = .ok (.value u) w')
  (ht : ∀ β ∈ bs, ∃ sb, S.heap[β]? = some sb ∧ mineB sb = true) (hnd : bs.Nodup)
  (hus : ∀ (j : Nat) u, us[j]? = some u → blkOf u = none ∨ ∃ β, bs[j]? = some β ∧ (u = (μ β).v ∧ (μ β).hist = []) ∧ ∃ a len cap, u = .slice a len cap)
  (h1 : w'.os = w.os) (h2 : w'.tape = w.tape) (h3 : w'.output = w.output) (hsz : w.heap.size ≤ w'.heap.size) (hblk : ∀ b, b < w.heap.size → (∀ β ∈ bs, ¬ (μ β).own b) → w'.heap[b]? = w.heap[b]?) (hfr : (∀ b, blkOf u = some b → w.heap.size ≤ b) ∨ False)
  (hown : w'.ownsRow 0 e 1 u n us) (hn : ls.length = n) (hrd : RowsD w et e' us ls) (hx : x.get (ρ ++ σ) = some (.lst (ls.map fun l => D.lst (l.map (unflat et.agg))))) (hall : ∀ b, b < w.heap.size → w'.heap[b]? = w.heap[b]? := by exact fun b hb => alloc_old hb) :
  HopOk P X M w0 S μ o a w (ρ ++ σ) (.c (.s (.own S.heap.length))) (killAll S.heap bs ++ [.rows et e' e 0 x]) bs := by
 obtain ⟨k1, k2, k3⟩ := killAll_get (bs := bs) (h := S.heap)
 have hfr : ∀ b, blkOf u = some b → w.heap.size ≤ b := by rcases hfr with h | h; exact h; exact h.elim
 have hbown : ∀ (j : Nat) v, us[j]? = some v → ∀ b, blkOf v = some b → ∃ β, bs[j]? = some β ∧ (μ β).own b := fun j v hj b hb => by
  rcases hus j v hj with h0 | ⟨β, g1, ⟨g2, g3⟩, _⟩
  ·rw [h0] at hb; cases hb
  ·exact ⟨β, g1, .inl (by rw [← g2]; exact hb)⟩
 have hold : ∀ β ∈ bs, ∀ b, (μ β).own b → b < w.heap.size := fun β hβ b hb => by obtain ⟨sb, g1, g2⟩ := ht β hβ;exact hR.own_lt ⟨sb, g1, fun e => by subst e; cases g2⟩ hb
 have m : Move S μ w bs (killAll S.heap bs ++ [.rows et e' e 0 x]) (fun β => if β < S.heap.length then μ β else ⟨u, [us]⟩) w' :=
  Move.fresh ht k1 k2 (fun γ hγ => k3 γ hγ (by obtain ⟨sb, g1, _⟩ := ht γ hγ; exact (List.getElem?_eq_some_iff.1 g1).1)) h1 h2 h3 hsz hblk (fun b hb => by
   rcases hb with hb | ⟨v, hv, hb⟩
   ·exact .inl (hfr b hb)
   ·obtain ⟨j, hj⟩ := List.getElem?_of_mem hv
    obtain ⟨β, g1, g2⟩ := hbown j v hj b hb
    exact .inr ⟨β, List.mem_of_getElem? g1, g2⟩)
 have hin : (MV.mk u [us]).inner = us := rfl
 refine ⟨_, _, _, _, hr, .inl rfl, m, fun β sb hb h => ?_, ?_⟩
 ·have hβ : β = S.heap.length ∨ (β ∈ bs ∧ sb = .dead) := by
   have hlt := (List.getElem?_eq_some_iff.1 hb).1;simp only [List.length_append, k1, List.length_cons, List.length_nil] at hlt
   rcases h with h | h
   ·have hlt2 : β < S.heap.length := by obtain ⟨sb, g1, _⟩ := ht β h; exact (List.getElem?_eq_some_iff.1 g1).1
    rw [List.getElem?_append_left (by omega), k3 β h hlt2] at hb
    simp only [Option.some.injEq] at hb;exact .inr ⟨h, hb.symm⟩
   ·left; omega
  rcases hβ with rfl | ⟨_, rfl⟩
  ·rw [List.getElem?_append_right (by omega), k1, Nat.sub_self] at hb
   simp only [List.getElem?_cons_zero, Option.some.injEq] at hb;subst hb;simp only [Nat.lt_irrefl, if_false];refine ⟨rfl, n, ls, hown, fun b hb => ?_, hx, hn, ?_, ?_, ?_⟩
   ·rcases hb with hb | ⟨v, hv, hb⟩
    ·exact .inl (Nat.le_trans hR.keeps.size (hfr b hb))
    ·obtain ⟨j, hj⟩ := List.getElem?_of_mem hv
     obtain ⟨β, g1, g2⟩ := hbown j v hj b hb;obtain ⟨sb, g3, g4⟩ := ht β (List.mem_of_getElem? g1);exact hR.mine g3 g4 g2
   ·refine hrd.kept fun v hv b hb => hall b ?_
    obtain ⟨j, hj⟩ := List.getElem?_of_mem hv;obtain ⟨β, g1, g2⟩ := hbown j v hj b hb;exact hold β (List.mem_of_getElem? g1) b g2
   ·intro i j v v' hi hj hne b hb hb'
    obtain ⟨β, g1, g2⟩ := hbown i v hi b hb;obtain ⟨γ, g3, g4⟩ := hbown j v' hj b hb';obtain ⟨s1, g5, g6⟩ := ht β (List.mem_of_getElem? g1);obtain ⟨s2, g7, g8⟩ := ht γ (List.mem_of_getElem? g3);refine hR.inj β γ ⟨s1, g5, fun e => by subst e; cases g6⟩ ⟨s2, g7, fun e => by subst e; cases g8⟩ (fun e => hne ?_) b g2 g4
    subst e;exact nodup_map_inj (g := fun x => x) (by simpa using hnd) g1 g3 rfl
   ·intro v hv b hb he
    obtain ⟨j, hj⟩ := List.getElem?_of_mem hv;obtain ⟨β, g1, g2⟩ := hbown j v hj b hb;have := hold β (List.mem_of_getElem? g1) b g2;have := hfr b he;omega
  ·trivial
 ·obtain ⟨ad, cap, e'⟩ := ownsRow_slice hown
  exact ⟨by simp [k1], by simp, ad, n, cap, by simp [e']⟩
theorem run_buildSlice0 (t e : TypeId) (hu : P.underlying t = some (.slice e)) {i : TypeInfo} (hi : P.info? e = some i) : (Instr.buildSlice t 0 #[]).run P w = .ok (.slice (some ⟨w.heap.size, 0, none⟩) 0 0) (w.alloc (.cells #[] e)) := by
 simp [Instr.buildSlice, run_underlying hu, Go.sizeOf, typeInfo, hi, newRow, Instr.fill]
 congr 2
 exact Array.eq_empty_of_size_eq_zero (by simp)
theorem run_lit {t e : TypeId} {i : TypeInfo} {z : Value} {us : List Value} (hu : P.underlying t = some (.slice e)) (hi : P.info? e = some i) (hz : i.zero = some z) (hpos : 0 < i.size) (hlen : us.length * i.size ≤ 2 ^ 24) (hus : ∀ u ∈ us, u.cells.size = i.size) :
  (Instr.buildSlice t us.length ((us.zipIdx 0).map fun x => (x.2, x.1)).toArray).run P w = .ok (.slice (some ⟨w.heap.size, 0, none⟩) us.length us.length) (w.alloc (.cells (us.flatMap fun v => v.cells.toList).toArray e)) := by
 by_cases h0 : us.length = 0
 ·have : us = [] := List.eq_nil_of_length_eq_zero h0
  subst this;exact run_buildSlice0 t e hu hi
 ·refine run_buildSlice w t e us.length _ _ i z hu hi hz (by omega) (fun e => ?_) ?_
  ·rcases Nat.mul_eq_zero.1 e with h | h <;> omega
  ·refine Go.Great.fill_whole hpos us _ hus ?_
   simp
theorem zip_range {us : List Value} : ∀ {parts : List (Nat × Value)} {k : Nat}, parts.map (·.1) = List.range' k parts.length → us = parts.map (·.2) → parts = (us.zipIdx k).map fun x => (x.2, x.1)
 | [], k, _, h => by subst h; rfl
 | (i, v) :: ps, k, h1, h2 => by subst h2;simp only [List.map_cons, List.length_cons, List.range'_succ, List.cons.injEq] at h1;obtain ⟨rfl, h1⟩ := h1;simp only [List.map_cons, List.zipIdx_cons, List.cons.injEq, true_and];exact zip_range h1 rfl
theorem PartsR.get {F : Nat → Prop} {hl : Nat} : ∀ {l : List (Nat × SV)} {q : List (Nat × Value)}, PartsR w F hl μ ρ l q → l.map (·.1) = q.map (·.1) ∧ l.length = q.length ∧ ∀ (j : Nat) s u, (l.map (·.2))[j]? = some s → (q.map (·.2))[j]? = some u → SVR w F hl μ ρ s u
 | [], [], _ => ⟨rfl, rfl, by simp⟩
 | (i, s) :: l, (j, v) :: q, ⟨h1, h2, h3⟩ => by
  obtain ⟨i1, i2, i3⟩ := PartsR.get h3;refine ⟨by simp [h1, i1], by simp [i2], fun k s' u' hs hu => ?_⟩
  cases k with
  | zero => simp only [List.map_cons, List.getElem?_cons_zero, Option.some.injEq] at hs hu; subst hs hu; exact h2
  | succ k => simp only [List.map_cons, List.getElem?_cons_succ] at hs hu; exact i3 k s' u' hs hu
theorem build_hop {o : Oper} {t : TypeId} {len : Nat} {parts : Array (Nat × Operand)} {l : List (Nat × SV)} {v : SV} {ps : List Push} {heap' : List SB} {tch : List Nat} {ρ' : List D} (ho : o.op = .buildSlice t len parts) (hR : R X M w0 S μ ρ a w)
  {g : Guard} (hg : g.ok ρ = true) (hl : svParts S g parts.toList = .ok l) (h : hopBuildSlice P S t len l = .ok (v, ps, heap', tch)) (hp : pushAll ps ρ = some ρ') : HopOk P X M w0 S μ o a w ρ' v heap' tch := by
 unfold hopBuildSlice at h
 obtain ⟨k, hk, h⟩ := bind_ok h
 have hk := need_ok hk
 split at h
 ·rename_i hpar
  have hpr := svParts_ok hg hR.slots hl;obtain ⟨q1, q2, q3⟩ := hpr.get;generalize hus : (parts.toList.map fun (i, x) => (i, a.eval x)) = vals at *
  have hvl : vals.length = len := by have := congrArg List.length hpar.1;rw [← q2]; simpa using this
  have hzip : vals = ((vals.map (·.2)).zipIdx 0).map fun x => (x.2, x.1) := by refine zip_range ?_ rfl;rw [← q1, hpar.1, hvl, List.range_eq_range']
  have hrun0 : (execOp a.eval o).run P w = ((Instr.buildSlice t len vals.toArray).run P w).andThen fun v w' => .ok (.value v) w' := by
   have : (parts.map fun (i, x) => (i, a.eval x)) = vals.toArray := by apply Array.ext'; rw [← hus]; simp
   simp [execOp, ho, this]
  rcases mkOf_ok hk with ⟨et, e, rfl, ht, hel⟩ | ⟨et, e', e, rfl, ht, hel⟩
  ·
   dsimp only at h
   obtain ⟨⟨xs, pe⟩, g1, g2⟩ := bind_ok h
   dsimp only at g2
   simp only [Except.ok.injEq, Prod.mk.injEq] at g2;obtain ⟨rfl, rfl, rfl, rfl⟩ := g2;obtain ⟨i, z, hE⟩ := elemOk_ok hel;obtain ⟨σ1, p1, p2, p3⟩ := push_split hp;have g1' : elemsPush et (ρ ++ []).length (l.map (·.2)) = .ok (xs, pe) := by simpa [hR.len] using g1
   obtain ⟨i1, i2, ls, i3, i4, i5⟩ := elemsPush_ok (us := vals.map (·.2)) g1' (by simp [q2]) q3 (by simpa using p1)
   obtain ⟨d, hd, rfl⟩ := pushAll_one p3;rw [i3] at hd;simp only [Prim.ev, Option.some.injEq] at hd;subst hd;have hlen : (vals.map (·.2)).length = len := by simpa using hvl
   have hrun := run_lit (P := P) (w := w) (us := vals.map (·.2)) ht hE.info hE.zero hE.pos (by
     rw [hlen];have h1 := hpar.2;have h2 : i.size ≤ 4096 := Nat.le_trans hE.few (by decide)
     calc len * i.size ≤ 4096 * 4096 := Nat.mul_le_mul h1 h2
      _ ≤ 2 ^ 24 := by decide) (fun u hu => by rw [hE.size]; exact i2 u hu)
   rw [hlen, ← hzip] at hrun;rw [hrun, Result.andThen_ok] at hrun0;have hp2 : σ1.length = pe.length := p2;rw [List.append_assoc];refine fresh_row (n := len) (xs := _) (ls := ls) hR hrun0 rfl rfl rfl (by simp) (fun b hb => alloc_old hb) (fun b hb => by simp only [blkOf, Option.some.injEq] at hb; omega) ?_ (by rw [i4, hlen]) i5 ?_
   ·have hown := World.ownsRow_lit (base := 0) (e := e) (size := et.cells.length) w ((vals.map (·.2)).flatMap fun v => v.cells.toList).toArray len (Nat.zero_le _) (by simp only [maxLen]; omega) (by
     have := i5.length;rw [i4, hlen] at this
     simpa using this)
    simpa using hown
   ·rw [← List.append_assoc]
    have := get_new (ρ := ρ ++ σ1) (n := S.n + pe.length) (d := D.lst (ls.map (unflat et.agg))) (by rw [List.length_append, hR.len, hp2])
    exact this
  ·
   dsimp only at h
   obtain ⟨⟨bs, xs⟩, g1, g2⟩ := bind_ok h
   dsimp only at g2
   split at g2
   ·rename_i hnd
    simp only [Except.ok.injEq, Prod.mk.injEq] at g2;obtain ⟨rfl, rfl, rfl, rfl⟩ := g2;obtain ⟨i, hE⟩ := elemSl_ok hel;obtain ⟨i1, i2, i3, ls, i4, i5, i6⟩ := ownRows_ok hR g1 (us := vals.map (·.2)) (by simp [q2]) q3
    obtain ⟨d, hd, rfl⟩ := pushAll_one hp;rw [i4] at hd;simp only [Prim.ev, Option.some.injEq] at hd;subst hd;have hlen : (vals.map (·.2)).length = len := by simpa using hvl
    have hcell : ∀ u ∈ vals.map (·.2), u.cells = #[u] := by intro u hu;obtain ⟨j, hj⟩ := List.getElem?_of_mem hu;obtain ⟨β, hβ, e⟩ := i3 j u hj;obtain ⟨a', l', c', e'⟩ := e.2;rw [e']; rfl
    have hus1 : ∀ u ∈ vals.map (·.2), u.cells.size = i.size := fun u hu => by rw [hcell u hu, hE.size]; rfl
    have hrun := run_lit (P := P) (w := w) (us := vals.map (·.2)) ht hE.info hE.zero (by rw [hE.size]; decide) (by
      rw [hlen, hE.size];have h1 := hpar.2
      calc len * 1 ≤ 4096 * 1 := Nat.mul_le_mul h1 (Nat.le_refl _)
       _ ≤ 2 ^ 24 := by decide) hus1
    rw [hlen, ← hzip] at hrun;rw [hrun, Result.andThen_ok] at hrun0;have hflat : ((vals.map (·.2)).flatMap fun v => v.cells.toList) = vals.map (·.2) := by
     have : ∀ (us : List Value), (∀ u ∈ us, u.cells = #[u]) → (us.flatMap fun v => v.cells.toList) = us := by
      intro us
      induction us with
      | nil => intro _; rfl
      | cons u us ih => intro h; simp only [List.flatMap_cons, h u (by simp)]; rw [ih fun v hv => h v (by simp [hv])]; rfl
     exact this _ hcell
    rw [hflat] at hrun0;refine fresh_rows hR hrun0 i1 hnd (fun j u hj => .inr (i3 j u hj)) rfl rfl rfl (by simp) (fun b hb _ => alloc_old hb) (.inl fun b hb => by simp only [blkOf, Option.some.injEq] at hb; omega) ?_ (by rw [i5, hlen]) i6 (get_new hR.len)
    have hown := World.ownsRow_lit (base := 0) (e := e) (size := 1) w (vals.map (·.2)).toArray len (Nat.zero_le _) (by simp only [maxLen]; omega) (by simp [hvl])
    simpa using hown
   ·cases g2
 ·cases h
theorem zeroD_ok (w : World) {e : TypeId} {et : ET} {i : TypeInfo} {z : Value} {d : D} (hE : ElemOk P e et i z) (h : zeroD P e et = some d) : ∃ l, RdCs RdB et.cells z.cells.toList l ∧ d = unflat et.agg l := by
 unfold zeroD at h
 rw [hE.info] at h
 simp only [hE.zero] at h
 split at h
 ·rename_i cs hcs
  have key : ∀ {ts : List BT} {cs : List CV} {vs : List Value} {l : List D}, litCells vs = some cs → zeroD.zs ts cs = some l → RdCs RdB ts vs l := by
   intro ts
   induction ts with
   | nil =>
    intro cs vs l h1 h2
    cases cs with
    | nil =>
     simp only [zeroD.zs, Option.some.injEq] at h2;subst h2
     cases vs with
     | nil => trivial
     | cons v vs =>
      simp only [litCells] at h1;split at h1 <;> simp at h1
    | cons c cs => simp [zeroD.zs] at h2
   | cons t ts ih =>
    intro cs vs l h1 h2
    cases cs with
    | nil => simp [zeroD.zs] at h2
    | cons c cs =>
     cases vs with
     | nil => simp [litCells] at h1
     | cons v vs =>
      have hR := litCells_ok (w := w) (F := fun _ => True) (hl := 0) (μ := fun _ => MV.one Go.undef) (ρ := []) h1
      obtain ⟨hv, _⟩ := hR;simp only [litCells] at h1;split at h1
      ·rename_i c0 cs0 e1 e2
       simp only [Option.some.injEq, List.cons.injEq] at h1;obtain ⟨rfl, rfl⟩ := h1;unfold zeroD.zs at h2;split at h2
       ·rename_i heq _; cases heq
       ·rename_i t0 ts0 t' d' cs1 heq heq2
        simp only [List.cons.injEq] at heq heq2;obtain ⟨rfl, rfl⟩ := heq;obtain ⟨heq3, rfl⟩ := heq2;split at h2
        ·rename_i ht
         subst ht;simp only [Option.map_eq_some_iff] at h2;obtain ⟨l', h3, rfl⟩ := h2;rw [heq3] at hv;obtain ⟨d, hd, hr⟩ := hv;simp only [Atom.get, Option.some.injEq] at hd;subst hd;exact ⟨hr, ih e2 h3⟩
        ·cases h2
       ·cases h2
      ·cases h1
  simp only [Option.map_eq_some_iff] at h;obtain ⟨l, h1, rfl⟩ := h;exact ⟨l, key hcs h1, rfl⟩
 ·cases h
theorem made_row {et : ET} {z : Array Value} {l : List D} (hr : RdCs RdB et.cells z.toList l) : ∀ (n : Nat), RdRow RdB et.cells ((List.replicate n z.toList).flatten) (List.replicate n l)
 | 0 => rfl
 | n + 1 => ⟨z.toList, (List.replicate n z.toList).flatten, by simp [List.replicate_succ], hr, made_row hr n⟩
theorem madeCells_flat (z : Array Value) : ∀ (n : Nat), (madeCells z (n * z.size)).toList = (List.replicate n z.toList).flatten := by
 intro n
 apply List.ext_getElem?
 intro k
 by_cases hz : z.size = 0
 ·have : z = #[] := Array.eq_empty_of_size_eq_zero hz
  subst this;have : (List.replicate n ([] : List Value)).flatten = [] := by induction n with | zero => rfl | succ n ih => simp [List.replicate_succ]
  simp [madeCells]
 ·have hpos : 0 < z.size := Nat.pos_of_ne_zero hz
  have get : ∀ (n k : Nat), ((List.replicate n z.toList).flatten)[k]? = if k < n * z.size then z.toList[k % z.size]? else none := by
   intro n
   induction n with
   | zero => intro k; simp
   | succ n ih =>
    intro k;rw [List.replicate_succ, List.flatten_cons]
    by_cases hk : k < z.size
    ·rw [List.getElem?_append_left (by simpa using hk), if_pos (by rw [Nat.add_mul]; omega), Nat.mod_eq_of_lt hk]
    ·rw [List.getElem?_append_right (by simpa using Nat.le_of_not_lt hk), ih]
     have e : (k - z.size) % z.size = k % z.size := by rw [← Nat.mod_eq_sub_mod (by omega)]
     simp only [Array.length_toList, e, Nat.add_mul, Nat.one_mul]
     by_cases h : k < n * z.size + z.size
     ·rw [if_pos h, if_pos (by omega)]
     ·rw [if_neg h, if_neg (by omega)]
  rw [get]
  by_cases hk : k < n * z.size
  ·rw [if_pos hk]
   simp [madeCells, hk, Nat.mod_lt _ hpos]
  ·rw [if_neg hk]
   simp [madeCells];omega
theorem same_get {x y : Atom} {σ : List D} {d d' : D} (h : Atom.same x y = true) (hx : x.get σ = some d) (hy : y.get σ = some d') : d = d' := by
 unfold Atom.same at h
 split at h
 ·simp only [beq_iff_eq] at h
  subst h;rw [hx] at hy;simpa using hy
 ·simp only [beq_iff_eq] at h
  subst h;simp only [Atom.get, Option.some.injEq] at hx hy;rw [← hx, ← hy]
 ·cases h
theorem make_hop {o : Oper} {t : TypeId} {lo co : Operand} {sa sb v : SV} {ps : List Push} {heap' : List SB} {tch : List Nat} {ρ' : List D} (ho : o.op = .makeSlice t lo co) (hR : R X M w0 S μ ρ a w)
  (h1 : getSV S lo = .ok sa) (h2 : getSV S co = .ok sb) (h : hopMakeSlice P S t sa sb = .ok (v, ps, heap', tch)) (hp : pushAll ps ρ = some ρ') : HopOk P X M w0 S μ o a w ρ' v heap' tch := by
 unfold hopMakeSlice at h
 obtain ⟨k, hk, h⟩ := bind_ok h
 have hk := need_ok hk
 split at h
 ·rename_i x y
  obtain ⟨n, en, hn⟩ := rd_int (getSV_ok h1 hR.slots);obtain ⟨n', en', hn'⟩ := rd_int (getSV_ok h2 hR.slots);split at h
  ·rename_i hsame
   have := same_get hsame hn hn';simp only [D.int.injEq] at this;subst this;have hrunOf : ∀ {e : TypeId} {i : TypeInfo} {z : Value}, P.underlying t = some (.slice e) → P.info? e = some i → i.zero = some z → i.bytes ≤ 64 → 0 ≤ n → n ≤ 1099511627776 →
     ∃ w', (execOp a.eval o).run P w = .ok (.value (.slice (some ⟨w.heap.size, 0, none⟩) n.toNat n.toNat)) w' ∧ w'.ownsRow 0 e i.size (.slice (some ⟨w.heap.size, 0, none⟩) n.toNat n.toNat) n.toNat (madeCells z.cells (n.toNat * i.size)).toList ∧ w.grownBy w' none := by
    intro e i z ht hi hz hb h0 hmax
    obtain ⟨w', r1, r2, r3⟩ := run_make_full (P := P) w 0 t e i z i.size ht hi hz rfl .i64 .i64 n.toNat (by
     have : n.toNat ≤ 1099511627776 := by omega
     calc i.bytes * n.toNat ≤ 64 * 1099511627776 := Nat.mul_le_mul hb this
      _ ≤ 281474976710656 := by decide) (by simp only [maxLen]; omega) (Nat.zero_le _)
    refine ⟨w', ?_, r2, r3⟩;rw [Int.toNat_of_nonneg h0] at r1;simp [execOp, ho, en, en', r1]
   rcases mkOf_ok hk with ⟨et, e, rfl, ht, hel⟩ | ⟨et, e', e, rfl, ht, hel⟩
   ·dsimp only at h
    obtain ⟨z, g1, g2⟩ := bind_ok h;simp only [Except.ok.injEq, Prod.mk.injEq] at g2;obtain ⟨rfl, rfl, rfl, rfl⟩ := g2;obtain ⟨i, zv, hE⟩ := elemOk_ok hel;obtain ⟨l, hl, rfl⟩ := zeroD_ok w hE (need_ok g1);obtain ⟨d, hd, rfl⟩ := pushAll_one hp;simp only [evs, List.map_cons, List.map_nil, Atom.ev_of_get hn, Atom.ev_of_get (x := .c (unflat et.agg l)) (ρ := ρ) rfl, Prim.ev] at hd;split at hd
    ·rename_i hb
     simp only [Option.some.injEq] at hd;subst hd;obtain ⟨w', r1, r2, r3⟩ := hrunOf ht hE.info hE.zero hE.bytes hb.1 hb.2;have hrow : RdRow RdB et.cells (madeCells zv.cells (n.toNat * i.size)).toList (List.replicate n.toNat l) := by rw [← hE.zs, madeCells_flat]; exact made_row hl _
     rw [hE.size] at r2 hrow;refine fresh_row (σ := [_]) hR r1 r3.os r3.tape r3.output r3.size (fun b hb => r3.block b hb (by simp)) (fun b hb => by simp only [blkOf, Option.some.injEq] at hb; omega) r2 (by simp) hrow ?_
     rw [List.map_replicate];exact get_new hR.len
    ·cases hd
   ·dsimp only at h
    simp only [Except.ok.injEq, Prod.mk.injEq] at h;obtain ⟨rfl, rfl, rfl, rfl⟩ := h;obtain ⟨i, hE⟩ := elemSl_ok hel;obtain ⟨d, hd, rfl⟩ := pushAll_one hp;simp only [evs, List.map_cons, List.map_nil, Atom.ev_of_get hn, Atom.ev_of_get (x := .c (.lst [])) (ρ := ρ) rfl, Prim.ev] at hd;split at hd
    ·rename_i hb
     simp only [Option.some.injEq] at hd;subst hd;obtain ⟨w', r1, r2, r3⟩ := hrunOf ht hE.info hE.zero hE.bytes hb.1 hb.2;rw [hE.size, Nat.mul_one] at r2;have hone : (madeCells (Value.slice none 0 0).cells n.toNat).toList = List.replicate n.toNat (.slice none 0 0) := toList_madeCells_one _ _;rw [hone] at r2
     have hrows : RowsD w et e' (List.replicate n.toNat (.slice none 0 0)) (List.replicate n.toNat []) := ⟨by simp, fun i u l hi hl => by
      rw [List.getElem?_replicate] at hi hl;split at hi <;> simp only [Option.some.injEq, reduceCtorEq] at hi;rename_i hlt;rw [if_pos hlt] at hl;simp only [Option.some.injEq] at hl;subst hi hl
      exact ⟨0, [], ⟨by simp, .inl ⟨rfl, rfl⟩⟩, rfl, rfl⟩⟩
     refine fresh_rows (σ := [_]) (bs := []) (us := List.replicate n.toNat (.slice none 0 0)) (ls := List.replicate n.toNat []) (n := n.toNat) hR r1 (by simp) (by simp) (fun j u hj => .inl ?_) r3.os r3.tape r3.output r3.size (fun b hb _ => r3.block b hb (by simp))
      (.inl fun b hb => by simp only [blkOf, Option.some.injEq] at hb; omega) r2 (by simp) hrows ?_ (fun b hb => r3.block b hb (by simp))
     ·rw [List.getElem?_replicate] at hj
      split at hj <;> simp only [Option.some.injEq, reduceCtorEq] at hj;subst hj; rfl
     ·rw [List.map_replicate]
      exact get_new hR.len
    ·cases hd
  ·cases h
 ·cases h
end
end Vs

namespace Vs
open Go Go.RowKit
section
variable {P : Program} {X : Nat → Prop} {M : Hand} {w0 w w' : World} {S : SS} {μ μ' : Mu} {ρ : List D} {a : Act}
theorem ownBlock_blk {v : Value} {a : Option Addr} {n c : Nat} (h : v = .slice a n c) : v.ownBlock = blkOf v := by subst h; cases a <;> rfl
def News (w : World) (bv : Value) (m : Nat) (news : List Value) : Prop :=
 (bv = .slice none 0 0 ∧ m = 0 ∧ news = []) ∨ ∃ ad c, bv = .slice (some ad) m c ∧ ∀ j u, news[j]? = some u → w.cell? (ad.add j) = some u
theorem run_app {t ty e : TypeId} {i : TypeInfo} {z : Value} {v bv : Value} {n m : Nat} {xs news : List Value} (ht : P.underlying t = some (.slice e)) (hi : P.info? e = some i) (hz : i.zero = some z) (hzs : z.cells.size = i.size) (hpos : 0 < i.size) (hby : i.bytes ≤ 64)
  (hown : w.ownsRow 0 e i.size v n xs) (hl : news.length = m * i.size) (hnews : News w bv m news) (h1 : ∀ u ∈ news, u.oneCell' = true) (hmax : n + m ≤ 1099511627776) :
  ∃ v' w', (Builtin.append_ #[t, t] ty #[v, bv]).run P w = .ok v' w' ∧ w'.ownsRow 0 e i.size v' (n + m) (xs ++ news) ∧ w.grownBy w' v.ownBlock ∧ ∀ b, blkOf v' = some b → w.heap.size ≤ b ∨ blkOf v = some b := by
 rcases hnews with ⟨rfl, rfl, rfl⟩ | ⟨ad, c, rfl, hcell⟩
 ·exact ⟨v, w, run_append_owned_none w 0 t ty e i i.size ht hi v n xs hown, by simpa using hown, ⟨rfl, rfl, rfl, Nat.le_refl _, fun _ _ _ => rfl⟩, fun b hb => .inr hb⟩
 ·have hm : n + m ≤ maxLen := by simp only [maxLen]; omega
  have hb : (n + m) * i.bytes ≤ 140737488355328 := by
   calc (n + m) * i.bytes ≤ 1099511627776 * 64 := Nat.mul_le_mul hmax hby
    _ ≤ 140737488355328 := by decide
  obtain ⟨v', w', r1, r2, r3, r4⟩ := run_append_own (P := P) w 0 t ty e i z i.size i.bytes ht hi hz rfl rfl hzs hpos v n xs hown ad m c news hl hcell h1 hm hb (Nat.zero_le _);refine ⟨v', w', r1, r2, r3, fun b hb' => ?_⟩
  rcases hown.2 with ⟨rfl, rfl⟩ | ⟨g, cap, cur, rfl, _, hg, hnc, _, hcs, htake⟩
  ·by_cases h0 : m = 0
   ·subst h0
    have : v' = .slice none 0 0 := r4.2 ⟨rfl, rfl⟩;rw [this] at hb'; cases hb'
   ·have hr := run_append_nil (P := P) w t ty e i z ht hi hz ad m c news hl hcell (by omega) (by simp only [Nat.zero_add] at hmax; omega) (by simp only [Nat.zero_add] at hb; omega)
    rw [hr] at r1;simp only [Result.ok.injEq] at r1;rw [← r1.1] at hb';simp only [blkOf, Option.some.injEq] at hb'
    left; omega
  ·by_cases hroom : n + m ≤ cap
   ·obtain ⟨w2, q1, _⟩ := run_append_fits (P := P) w 0 t ty e i i.size ht hi rfl g n cap xs hown ad m c news hl hcell h1 hroom
    rw [q1] at r1;simp only [Result.ok.injEq] at r1;rw [← r1.1] at hb';exact .inr hb'
   ·have hr := run_append_grow (P := P) w t ty e i z ht hi hz ⟨g, 0, none⟩ n cap xs hown.1 (hown.cells (g := g) rfl) ad m c news hl hcell (by omega) (by omega) (growslice_fits (by omega) hb)
    rw [hr] at r1;simp only [Result.ok.injEq] at r1;rw [← r1.1] at hb';simp only [blkOf, Option.some.injEq] at hb'
    left; omega
theorem RdCs_one : ∀ {ts : List BT} {vs : List Value} {ds : List D}, RdCs RdB ts vs ds → ∀ u ∈ vs, u.oneCell' = true
 | [], [], [], _, u, hu => by simp at hu
 | t :: ts, v :: vs, d :: ds, ⟨h1, h2⟩, u, hu => by
  rcases List.mem_cons.1 hu with rfl | hu
  ·cases t <;> (obtain ⟨n, rfl, _⟩ := h1; rfl)
  ·exact RdCs_one h2 u hu
theorem RdRow_one {ts : List BT} : ∀ {xs : List Value} {ls : List (List D)}, RdRow RdB ts xs ls → ∀ u ∈ xs, u.oneCell' = true
 | xs, [], h, u, hu => by simp only [RdRow] at h; subst h; simp at hu
 | xs, l :: ls, ⟨c, r, e, h1, h2⟩, u, hu => by
  subst e
  rcases List.mem_append.1 hu with h | h
  ·exact RdCs_one h1 u h
  ·exact RdRow_one h2 u h
theorem RdRow_append {ts : List BT} : ∀ {xs ys : List Value} {ls ks : List (List D)}, RdRow RdB ts xs ls → RdRow RdB ts ys ks → RdRow RdB ts (xs ++ ys) (ls ++ ks)
 | xs, ys, [], ks, h, h2 => by simp only [RdRow] at h; subst h; simpa using h2
 | xs, ys, l :: ls, ks, ⟨c, r, e, h1, h3⟩, h2 => ⟨c, r ++ ys, by rw [e]; simp, h1, RdRow_append h3 h2⟩
theorem news_of {et : ET} {F : Nat → Prop} {bv : Value} {d : D} (h : RdSl w F (rr1 et) et.agg bv d) : ∃ m news ls, News w bv m news ∧ d = .lst (ls.map (unflat et.agg)) ∧ ls.length = m ∧ RdRow RdB et.cells news ls ∧ news.length = m * et.cells.length := by
 obtain ⟨ls, rfl, ⟨⟨ad, cap, rfl, h0⟩, rfl⟩ | ⟨b, off, cap, xs, rfl, _, _, hc, hr⟩⟩ := h
 ·cases ad with
  | none => obtain rfl := h0 rfl; exact ⟨0, [], [], .inl ⟨rfl, rfl, rfl⟩, rfl, rfl, rfl, by simp⟩
  | some ad => exact ⟨0, [], [], .inr ⟨_, cap, rfl, by simp⟩, rfl, rfl, rfl, by simp⟩
 ·exact ⟨ls.length, xs, ls, .inr ⟨_, cap, rfl, fun j u hj => by rw [addr_add]; exact hc j u hj⟩, rfl, rfl, hr, hr.length⟩
theorem app_run {o : Oper} {s x : Operand} {t : TypeId} {v' : Value} {args : Array Operand} {ats : Array TypeId} (ho : o.op = .call { callee := .builtin .append, args := args, argTypes := ats }) (ha : args.toList = [s, x]) (hat : ats.toList = [t, t])
  (hr : (Builtin.append_ #[t, t] o.type #[a.eval s, a.eval x]).run P w = .ok v' w') : (execOp a.eval o).run P w = .ok (.value v') w' := by
 have e1 : args = #[s, x] := by apply Array.ext'; simpa using ha
 have e2 : ats = #[t, t] := by apply Array.ext'; simpa using hat
 subst e1 e2
 simp [execOp, ho, resolve, invoke, builtin, hr]
theorem base_row (hR : R X M w0 S μ ρ a w) {et : ET} {e : TypeId} {sa : SV} {va : Value} {x : Atom} {ha : List SB} {tch : List Nat} (hv : SVR w (Fz X S.heap μ w) S.heap.length μ ρ sa va)
  (h : (sa = .c (.s .nils) ∧ x = .c (.lst []) ∧ ha = S.heap ∧ tch = []) ∨ ∃ β, sa = .c (.s (.own β)) ∧ S.heap[β]? = some (.row (.s1 et) e x) ∧ ha = S.heap.set β .dead ∧ tch = [β]) :
  ∃ n xs ls, w.ownsRow 0 e et.cells.length va n xs ∧ x.get ρ = some (.lst (ls.map (unflat et.agg))) ∧ ls.length = n ∧ RdRow RdB et.cells xs ls ∧ (∀ γ ∈ tch, ∃ sb, S.heap[γ]? = some sb ∧ mineB sb = true) ∧ ha.length = S.heap.length ∧
   (∀ β, β ∉ tch → ha[β]? = S.heap[β]?) ∧ (∀ γ ∈ tch, ha[γ]? = some .dead) ∧ ∀ b, blkOf va = some b → ∃ γ ∈ tch, (μ γ).own b := by
 rcases h with ⟨rfl, rfl, rfl, rfl⟩ | ⟨β, rfl, hb, rfl, rfl⟩
 ·simp only [SVR, CVR, CVR0] at hv
  subst hv;exact ⟨0, [], [], ⟨by simp, .inl ⟨rfl, rfl⟩⟩, rfl, rfl, rfl, by simp, rfl, fun _ _ => rfl, by simp, fun b hb => (by cases hb)⟩
 ·obtain ⟨_, rfl, _⟩ := hv
  obtain ⟨_, n, xs, ls, h1, h2, h3, h4, h5⟩ := hR.blocks β _ hb;refine ⟨n, xs, ls, h1, h3, h4, h5, fun γ hγ => ?_, by simp, fun γ hγ => ?_, fun γ hγ => ?_, fun b hbb => ⟨β, by simp, .inl hbb⟩⟩
  ·simp only [List.mem_singleton] at hγ; subst hγ; exact ⟨_, hb, rfl⟩
  ·rw [List.getElem?_set_ne]; simpa [eq_comm] using hγ
  ·simp only [List.mem_singleton] at hγ; subst hγ; rw [List.getElem?_set_self (List.getElem?_eq_some_iff.1 hb).1]
theorem moved_row {o : Oper} {σ : List D} {et : ET} {e : TypeId} {x : Atom} {u va : Value} {n : Nat} {xs : List Value} {ls : List (List D)} {ha : List SB} {tch : List Nat} (hR : R X M w0 S μ ρ a w) (hr : (execOp a.eval o).run P w = .ok (.value u) w')
  (ht : ∀ γ ∈ tch, ∃ sb, S.heap[γ]? = some sb ∧ mineB sb = true) (hl : ha.length = S.heap.length) (hs : ∀ β, β ∉ tch → ha[β]? = S.heap[β]?) (hdead : ∀ γ ∈ tch, ha[γ]? = some .dead) (hva : ∀ b, blkOf va = some b → ∃ γ ∈ tch, (μ γ).own b)
  (hg : w.grownBy w' va.ownBlock) (hvs : va.ownBlock = blkOf va) (hfr : ∀ b, blkOf u = some b → w.heap.size ≤ b ∨ blkOf va = some b)
  (hown : w'.ownsRow 0 e et.cells.length u n xs) (hn : ls.length = n) (hrd : RdRow RdB et.cells xs ls) (hx : x.get (ρ ++ σ) = some (.lst (ls.map (unflat et.agg)))) :
  HopOk P X M w0 S μ o a w (ρ ++ σ) (.c (.s (.own S.heap.length))) (ha ++ [.row (.s1 et) e x]) tch := by
 have hfr' : ∀ b, blkOf u = some b → w.heap.size ≤ b ∨ ∃ γ, γ ∈ tch ∧ (μ γ).own b := fun b hb => by
  rcases hfr b hb with h | h
  ·exact .inl h
  ·exact .inr (hva b h)
 have m : Move S μ w tch (ha ++ [.row (.s1 et) e x]) (fun β => if β < S.heap.length then μ β else MV.one u) w' :=
  Move.fresh ht hl hs hdead hg.os hg.tape hg.output hg.size (fun b hb hno => hg.block b hb (fun e => by
   rw [hvs] at e;obtain ⟨γ, h1, h2⟩ := hva b e.symm
   exact hno γ h1 h2)) (fun b hb => by
   rcases hb with hb | ⟨u, hu, _⟩
   ·exact hfr' b hb
   ·simp [MV.one, MV.inner] at hu)
 refine ⟨_, _, _, _, hr, .inl rfl, m, fun β sb hb h => ?_, ?_⟩
 ·have hβ : β = S.heap.length ∨ sb = .dead := by
   have hlt := (List.getElem?_eq_some_iff.1 hb).1;simp only [List.length_append, hl, List.length_cons, List.length_nil] at hlt
   rcases h with h | h
   ·have hlt2 : β < S.heap.length := by obtain ⟨sb, g1, _⟩ := ht β h; exact (List.getElem?_eq_some_iff.1 g1).1
    rw [List.getElem?_append_left (by omega), hdead β h] at hb
    simp only [Option.some.injEq] at hb;exact .inr hb.symm
   ·left; omega
  rcases hβ with rfl | rfl
  ·rw [List.getElem?_append_right (by omega), hl, Nat.sub_self] at hb
   simp only [List.getElem?_cons_zero, Option.some.injEq] at hb;subst hb;simp only [Nat.lt_irrefl, if_false];refine ⟨rfl, n, xs, ls, hown, fun b hb => ?_, hx, hn, hrd⟩
   rcases hfr' b ((MV.own_flat rfl).1 hb) with h1 | ⟨γ, h1, h2⟩
   ·exact .inl (Nat.le_trans hR.keeps.size h1)
   ·obtain ⟨sb, g3, g4⟩ := ht γ h1
    exact hR.mine g3 g4 h2
  ·trivial
 ·obtain ⟨ad, cap, e'⟩ := ownsRow_slice hown
  exact ⟨by simp [hl], by simp [MV.one], ad, n, cap, by simp [MV.one, e']⟩
theorem append_hop {o : Oper} {s x : Operand} {t : TypeId} {args : Array Operand} {ats : Array TypeId} {sa sb v : SV} {ps : List Push} {heap' : List SB} {tch : List Nat} {ρ' : List D} (ho : o.op = .call { callee := .builtin .append, args := args, argTypes := ats })
  (hargs : args.toList = [s, x]) (hat : ats.toList = [t, t]) (hR : R X M w0 S μ ρ a w) (h1 : SVR w (Fz X S.heap μ w) S.heap.length μ ρ sa (a.eval s)) (h2 : SVR w (Fz X S.heap μ w) S.heap.length μ ρ sb (a.eval x))
  (h : hopAppend P S t sa sb = .ok (v, ps, heap', tch)) (hp : pushAll ps ρ = some ρ') : HopOk P X M w0 S μ o a w ρ' v heap' tch := by
 unfold hopAppend at h
 obtain ⟨k, hk0, h0⟩ := bind_ok h
 have hk := need_ok hk0
 obtain ⟨⟨xa, ha, tc⟩, g1, g2⟩ := bind_ok h0
 dsimp only at g2
 clear h hk0 h0
 rcases mkOf_ok hk with ⟨et, e, rfl, ht, hel⟩ | ⟨et, e', e, rfl, ht, hel⟩
 ·
  obtain ⟨i, z, hE⟩ := elemOk_ok hel;have hbase : (sa = .c (.s .nils) ∧ xa = .c (.lst []) ∧ ha = S.heap ∧ tc = []) ∨ ∃ β, sa = .c (.s (.own β)) ∧ S.heap[β]? = some (.row (.s1 et) e xa) ∧ ha = S.heap.set β .dead ∧ tc = [β] := by
   split at g1
   ·simp only [Except.ok.injEq, Prod.mk.injEq] at g1
    obtain ⟨rfl, rfl, rfl⟩ := g1;exact .inl ⟨rfl, rfl, rfl, rfl⟩
   ·rename_i β
    split at g1
    ·rename_i u e1 y u' e2 hb hkk
     simp only [MK.row.injEq] at hkk;obtain ⟨rfl, rfl⟩ := hkk;split at g1
     ·rename_i hc
      obtain ⟨rfl, rfl⟩ := hc;simp only [Except.ok.injEq, Prod.mk.injEq] at g1;obtain ⟨rfl, rfl, rfl⟩ := g1;exact .inr ⟨β, rfl, hb, rfl, rfl⟩
     ·cases g1
    ·rename_i hkk; cases hkk
    ·cases g1
   ·cases g1
  obtain ⟨n, xs, ls, b1, b2, b3, b4, b5, b6, b7, b8, b9⟩ := base_row hR h1 hbase;have fin : ∀ {y : Atom} {m : Nat} {news : List Value} {ks : List (List D)}, News w (a.eval x) m news → y.get ρ = some (.lst (ks.map (unflat et.agg))) → ks.length = m → RdRow RdB et.cells news ks →
    pushAll [(Prim.app, [xa, y])] ρ = some ρ' → HopOk P X M w0 S μ o a w ρ' (.c (.s (.own S.heap.length))) (ha ++ [.row (.s1 et) e (.v S.n)]) tc := by
   intro y m news ks hnews hy hks hrd hp;obtain ⟨d, hd, rfl⟩ := pushAll_one hp;simp only [evs, List.map_cons, List.map_nil, Atom.ev_of_get b2, Atom.ev_of_get hy, Prim.ev, List.length_map] at hd;split at hd
   ·rename_i hmax
    simp only [Option.some.injEq] at hd;subst hd;have hl := hrd.length;rw [hks] at hl;obtain ⟨v', w', r1, r2, r3, r4⟩ := run_app (P := P) (ty := o.type) (z := z) ht hE.info hE.zero hE.zs hE.pos hE.bytes (by rw [hE.size]; exact b1) (by rw [hE.size]; exact hl) hnews (RdRow_one hrd) (by omega)
    rw [hE.size] at r2;obtain ⟨ad, cap, esl⟩ := ownsRow_slice b1;refine moved_row (σ := [_]) (va := a.eval s) hR (app_run ho hargs hat r1) b5 b6 b7 b8 b9 r3 (ownBlock_blk esl) r4 r2 (by simp [b3, hks]) (RdRow_append b4 hrd) ?_
    rw [List.map_append];exact get_new hR.len
   ·cases hd
  split at g2
  ·rename_i et0 e0 et' y hkk
   simp only [MK.row.injEq, CT.s1.injEq] at hkk;obtain ⟨rfl, rfl⟩ := hkk;split at g2
   ·rename_i het
    subst het;simp only [Except.ok.injEq, Prod.mk.injEq] at g2;obtain ⟨rfl, rfl, rfl, rfl⟩ := g2;obtain ⟨d, hy, hd⟩ := h2;obtain ⟨m, news, ks, q1, rfl, q3, q4, _⟩ := news_of hd;exact fin q1 hy q3 q4 hp
   ·cases g2
  ·rename_i et0 e0 hkk
   simp only [MK.row.injEq, CT.s1.injEq] at hkk;obtain ⟨rfl, rfl⟩ := hkk;simp only [Except.ok.injEq, Prod.mk.injEq] at g2;obtain ⟨rfl, rfl, rfl, rfl⟩ := g2;simp only [SVR, CVR, CVR0] at h2;exact fin (m := 0) (news := []) (ks := []) (.inl ⟨h2, rfl, rfl⟩) rfl rfl rfl hp
  ·rename_i et0 e0 γ hkk
   simp only [MK.row.injEq, CT.s1.injEq] at hkk;obtain ⟨rfl, rfl⟩ := hkk;split at g2
   ·rename_i et' e1 y hγ
    split at g2
    ·rename_i het
     subst het;simp only [Except.ok.injEq, Prod.mk.injEq] at g2;obtain ⟨rfl, rfl, rfl, rfl⟩ := g2;have hγS : S.heap[γ]? = some (.row (.s1 et) e1 y) := by
      have hne : γ ∉ tc := fun hm => by rw [b8 γ hm] at hγ; cases hγ
      rw [← b7 γ hne]; exact hγ
     obtain ⟨_, hxv, _⟩ := h2;obtain ⟨d, hy, hd⟩ := own_read (F := fun _ => True) hR (fun _ _ => trivial) (fun _ _ => trivial) hγS
     rw [← hxv] at hd;obtain ⟨m, news, ks, q1, rfl, q3, q4, _⟩ := news_of hd;exact fin q1 hy q3 q4 hp
    ·cases g2
   ·cases g2
  ·rename_i hkk; cases hkk
  ·cases g2
 ·
  obtain ⟨i, hE⟩ := elemSl_ok hel;split at g2
  ·rename_i hkk; cases hkk
  ·rename_i hkk; cases hkk
  ·rename_i hkk; cases hkk
  ·rename_i et0 e0' e0 γ hkk
   simp only [MK.rows.injEq] at hkk;obtain ⟨rfl, rfl, rfl⟩ := hkk;split at g2
   ·rename_i et2 f2 e2 ver2 y hγ
    split at g2
    ·rename_i hc
     obtain ⟨rfl, rfl, rfl⟩ := hc;simp only [Except.ok.injEq, Prod.mk.injEq] at g2;obtain ⟨rfl, rfl, rfl, rfl⟩ := g2;have hbase : ∃ n us ls, w.ownsRow 0 e2 1 (a.eval s) n us ∧ xa.get ρ = some (rowsDat et.agg ls) ∧ ls.length = n ∧ RowsD w et f2 us ls ∧ Apart us ∧ (∀ u ∈ us, ∀ b, blkOf u = some b → blkOf (a.eval s) ≠ some b) ∧
       (∀ γ ∈ tc, ∃ sb, S.heap[γ]? = some sb ∧ mineB sb = true) ∧ ha.length = S.heap.length ∧ (∀ β, β ∉ tc → ha[β]? = S.heap[β]?) ∧ (∀ γ ∈ tc, ha[γ]? = some .dead) ∧ (∀ b, (blkOf (a.eval s) = some b ∨ ∃ u ∈ us, blkOf u = some b) → ∃ γ ∈ tc, (μ γ).own b) := by
      split at g1
      ·simp only [Except.ok.injEq, Prod.mk.injEq] at g1
       obtain ⟨rfl, rfl, rfl⟩ := g1;simp only [SVR, CVR, CVR0] at h1;rw [h1]
       exact ⟨0, [], [], ⟨by simp, .inl ⟨rfl, rfl⟩⟩, rfl, rfl, ⟨rfl, by simp⟩, by intro i; simp, by simp, by simp, rfl, fun _ _ => rfl, by simp, fun b hb => by
        rcases hb with hb | ⟨u, hu, _⟩
        ·cases hb
        ·simp at hu⟩
      ·rename_i β
       split at g1
       ·rename_i hkk; cases hkk
       ·rename_i et1 f1 e1 ver1 y1 et1' f1' e1' hb hkk
        simp only [MK.rows.injEq] at hkk;obtain ⟨rfl, rfl, rfl⟩ := hkk;split at g1
        ·rename_i hc
         obtain ⟨rfl, rfl, rfl⟩ := hc;simp only [Except.ok.injEq, Prod.mk.injEq] at g1;obtain ⟨rfl, rfl, rfl⟩ := g1;obtain ⟨_, hv, _⟩ := h1;obtain ⟨_, n, ls, k1, _, k3, k4, k5, k6, k7⟩ := hR.blocks β _ hb;rw [hv];refine ⟨n, (μ β).inner, ls, k1, k3, k4, k5, k6, k7, fun γ hγ => ?_, by simp, fun γ hγ => ?_, fun γ hγ => ?_, fun b hbb => ⟨β, by simp, hbb⟩⟩
         ·simp only [List.mem_singleton] at hγ; subst hγ; exact ⟨_, hb, rfl⟩
         ·rw [List.getElem?_set_ne]; simpa [eq_comm] using hγ
         ·simp only [List.mem_singleton] at hγ; subst hγ; rw [List.getElem?_set_self (List.getElem?_eq_some_iff.1 hb).1]
        ·cases g1
       ·cases g1
      ·cases g1
     obtain ⟨n, us, ls, b1, b2, b3, b4, b5, b6, t1, t2, t3, t4, t5⟩ := hbase;have hγt : γ ∉ tc := fun hm => by rw [t4 γ hm] at hγ; cases hγ
     have hγS : S.heap[γ]? = some (.rows et f2 e2 ver2 y) := by rw [← t3 γ hγt]; exact hγ
     have hγl : live S.heap γ := ⟨_, hγS, by simp⟩
     obtain ⟨_, hxv, _⟩ := h2;obtain ⟨_, m, ks, c1, _, c3, c4, c5, c6, c7⟩ := hR.blocks γ _ hγS;have hnews : News w (a.eval x) m (μ γ).inner := by
      rw [hxv]
      rcases c1.2 with ⟨q1, q2⟩ | ⟨g, cap, cur, q1, _⟩
      ·refine .inl ⟨q1, q2, List.eq_nil_of_length_eq_zero ?_⟩
       simp [c1.1, q2]
      ·refine .inr ⟨_, cap, q1, c1.cells (g := g) ?_⟩
       rw [q1]; rfl
     obtain ⟨d, hd, rfl⟩ := pushAll_one hp;simp only [evs, List.map_cons, List.map_nil, Atom.ev_of_get b2, Atom.ev_of_get c3, rowsDat, Prim.ev, List.length_map] at hd;split at hd
     ·rename_i hmax
      simp only [Option.some.injEq] at hd;subst hd;have hone : ∀ u ∈ (μ γ).inner, u.oneCell' = true := fun u hu => by
       obtain ⟨j, hj⟩ := List.getElem?_of_mem hu;have hlt : j < ks.length := by rw [← c5.1]; exact (List.getElem?_eq_some_iff.1 hj).1
       obtain ⟨q, ys, hq, _⟩ := c5.2 j u _ hj (List.getElem?_eq_getElem hlt);obtain ⟨ad, cap, e⟩ := ownsRow_slice hq;rw [e]; rfl
      obtain ⟨v', w', r1, r2, r3, r4⟩ := run_app (P := P) (ty := o.type) (z := .slice none 0 0) ht hE.info hE.zero (by rw [hE.size]; rfl) (by rw [hE.size]; decide) hE.bytes (by rw [hE.size]; exact b1) (by rw [hE.size]; exact c1.1) hnews hone (by omega)
      rw [hE.size] at r2;obtain ⟨ad, cap, esl⟩ := ownsRow_slice b1;have hrow := ownBlock_blk esl;have hnot : ∀ b, blkOf (a.eval s) = some b → ¬ (μ γ).own b := fun b hb hown => by obtain ⟨δ, d1, d2⟩ := t5 b (.inl hb);obtain ⟨sb, g3, g4⟩ := t1 δ d1;exact hR.inj δ γ ⟨sb, g3, fun e => by subst e; cases g4⟩ hγl (fun e => hγt (by rw [← e]; exact d1)) b d2 hown
      have hT : ∀ δ ∈ γ :: tc, ∃ sb, S.heap[δ]? = some sb ∧ mineB sb = true := fun δ hδ => by
       rcases List.mem_cons.1 hδ with rfl | h
       ·exact ⟨_, hγS, rfl⟩
       ·exact t1 δ h
      have hγlt := (List.getElem?_eq_some_iff.1 hγ).1;have hin : (MV.mk v' [us ++ (μ γ).inner]).inner = us ++ (μ γ).inner := rfl;have hfr : ∀ b, (MV.mk v' [us ++ (μ γ).inner]).own b → w.heap.size ≤ b ∨ ∃ δ, δ ∈ γ :: tc ∧ (μ δ).own b := fun b hb => by
       rcases hb with hb | ⟨u, hu, hb⟩
       ·rcases r4 b hb with h | h
        ·exact .inl h
        ·obtain ⟨δ, d1, d2⟩ := t5 b (.inl h)
         exact .inr ⟨δ, by simp [d1], d2⟩
       ·rw [hin] at hu
        rcases List.mem_append.1 hu with hu | hu
        ·obtain ⟨δ, d1, d2⟩ := t5 b (.inr ⟨u, hu, hb⟩)
         exact .inr ⟨δ, by simp [d1], d2⟩
        ·exact .inr ⟨γ, by simp, .inr ⟨u, hu, hb⟩⟩
      have hdead : ∀ δ ∈ γ :: tc, (ha.set γ SB.dead)[δ]? = some .dead := fun δ hδ => by
       by_cases he : γ = δ
       ·subst he; rw [List.getElem?_set_self hγlt]
       ·rw [List.getElem?_set_ne he]
        rcases List.mem_cons.1 hδ with rfl | h
        ·exact absurd rfl he
        ·exact t4 δ h
      have mv : Move S μ w (γ :: tc) (ha.set γ .dead ++ [.rows et f2 e2 0 (.v S.n)]) (fun β => if β < S.heap.length then μ β else ⟨v', [us ++ (μ γ).inner]⟩) w' :=
       Move.fresh hT (by simp [t2]) (fun β hβ => by
        simp only [List.mem_cons, not_or] at hβ
        rw [List.getElem?_set_ne (fun e => hβ.1 e.symm)]; exact t3 β hβ.2) hdead r3.os r3.tape r3.output r3.size
        (fun b hb hno => r3.block b hb (fun e => by
         rw [hrow] at e;obtain ⟨δ, d1, d2⟩ := t5 b (.inl e.symm)
         exact hno δ (by simp [d1]) d2)) hfr
      refine ⟨_, _, _, _, app_run ho hargs hat r1, .inl rfl, mv, fun β sb hb h => ?_, ?_⟩
      ·have hβ : β = S.heap.length ∨ sb = .dead := by
        have hlt := (List.getElem?_eq_some_iff.1 hb).1;simp only [List.length_append, List.length_set, t2, List.length_cons, List.length_nil] at hlt
        rcases h with h | h
        ·have hlt2 : β < S.heap.length := by obtain ⟨sb, g1, _⟩ := hT β h; exact (List.getElem?_eq_some_iff.1 g1).1
         rw [List.getElem?_append_left (by simp; omega), hdead β h] at hb
         simp only [Option.some.injEq] at hb;exact .inr hb.symm
        ·left; omega
       rcases hβ with rfl | rfl
       ·rw [List.getElem?_append_right (by simp [t2]), List.length_set, t2, Nat.sub_self] at hb
        simp only [List.getElem?_cons_zero, Option.some.injEq] at hb;subst hb;simp only [Nat.lt_irrefl, if_false];have hkept : ∀ {vs : List Value} {js : List (List (List D))}, RowsD w et f2 vs js → (∀ u ∈ vs, ∀ b, blkOf u = some b → blkOf (a.eval s) ≠ some b ∧ b < w.heap.size) → RowsD w' et f2 vs js := fun hh hn => hh.kept fun u hu b hb =>
         r3.block b (hn u hu b hb).2 (fun e => (hn u hu b hb).1 (by rw [← hrow]; exact e.symm))
        have hltu : ∀ {vs : List Value} {js : List (List (List D))}, RowsD w et f2 vs js → ∀ u ∈ vs, ∀ b, blkOf u = some b → b < w.heap.size := fun hh u hu b hb => by obtain ⟨j, hj⟩ := List.getElem?_of_mem hu;have hlt := (List.getElem?_eq_some_iff.1 hj).1;rw [hh.1] at hlt;obtain ⟨q, ys, hq, _⟩ := hh.2 j u _ hj (List.getElem?_eq_getElem hlt);exact ownsRow_lt hq hb
        have hA := hkept b4 fun u hu b hb => ⟨b6 u hu b hb, hltu b4 u hu b hb⟩
        have hB := hkept c5 fun u hu b hb => ⟨fun e => hnot b e (.inr ⟨u, hu, hb⟩), hltu c5 u hu b hb⟩
        refine ⟨rfl, n + m, ls ++ ks, r2, fun b hb => ?_, ?_, by simp [b3, c4], ⟨by simp [hA.1, hB.1, hin], fun j u l hj hl => ?_⟩, ?_, ?_⟩
        ·rcases hfr b hb with h1 | ⟨δ, h1, h2⟩
         ·exact .inl (Nat.le_trans hR.keeps.size h1)
         ·obtain ⟨sb, g3, g4⟩ := hT δ h1
          exact hR.mine g3 g4 h2
        ·have := get_new (ρ := ρ) (n := S.n) (d := D.lst ((ls.map fun l => D.lst (l.map (unflat et.agg))) ++ ks.map fun l => D.lst (l.map (unflat et.agg)))) hR.len
         rw [this]; simp [rowsDat]
        ·rw [hin] at hj
         rcases Nat.lt_or_ge j us.length with hlt | hge
         ·rw [List.getElem?_append_left hlt] at hj
          rw [List.getElem?_append_left (by rw [← hA.1]; exact hlt)] at hl
          exact hA.2 j u l hj hl
         ·rw [List.getElem?_append_right hge] at hj
          rw [List.getElem?_append_right (by rw [← hA.1]; exact hge), ← hA.1] at hl
          exact hB.2 _ u l hj hl
        ·rw [hin]
         intro p q u u' hp' hq' hne b hb hb';have hx1 : ∀ u ∈ us, ∀ b, blkOf u = some b → ¬ ∃ u' ∈ (μ γ).inner, blkOf u' = some b := fun u hu b hb ⟨u', hu', hb'⟩ => by obtain ⟨δ, d1, d2⟩ := t5 b (.inr ⟨u, hu, hb⟩);obtain ⟨sb, g3, g4⟩ := t1 δ d1;exact hR.inj δ γ ⟨sb, g3, fun e => by subst e; cases g4⟩ hγl (fun e => hγt (by rw [← e]; exact d1)) b d2 (.inr ⟨u', hu', hb'⟩)
         rcases Nat.lt_or_ge p us.length with hp1 | hp1
         ·rw [List.getElem?_append_left hp1] at hp'
          rcases Nat.lt_or_ge q us.length with hq1 | hq1
          ·rw [List.getElem?_append_left hq1] at hq'
           exact b5 p q u u' hp' hq' hne b hb hb'
          ·rw [List.getElem?_append_right hq1] at hq'
           exact hx1 u (List.mem_of_getElem? hp') b hb ⟨u', List.mem_of_getElem? hq', hb'⟩
         ·rw [List.getElem?_append_right hp1] at hp'
          rcases Nat.lt_or_ge q us.length with hq1 | hq1
          ·rw [List.getElem?_append_left hq1] at hq'
           exact hx1 u' (List.mem_of_getElem? hq') b hb' ⟨u, List.mem_of_getElem? hp', hb⟩
          ·rw [List.getElem?_append_right hq1] at hq'
           exact c6 _ _ u u' hp' hq' (by omega) b hb hb'
        ·rw [hin]
         intro u hu b hb hb';have hlt : b < w.heap.size := by
          rcases List.mem_append.1 hu with hu | hu
          ·exact hltu b4 u hu b hb
          ·exact hltu c5 u hu b hb
         rcases r4 b hb' with h1 | h1
         ·omega
         ·rcases List.mem_append.1 hu with hu | hu
          ·exact b6 u hu b hb h1
          ·exact hnot b h1 (.inr ⟨u, hu, hb⟩)
       ·trivial
      ·obtain ⟨ad, cap, e'⟩ := ownsRow_slice r2
       exact ⟨by simp [t2], by simp, ad, n + m, cap, by simp [e']⟩
     ·cases hd
    ·cases g2
   ·cases g2
  ·cases g2
end
end Vs

namespace Vs
open Go Go.RowKit
section
variable {P : Program} {X : Nat → Prop} {M : Hand} {w0 w w' : World} {S : SS} {μ : Mu} {ρ : List D} {a : Act}
theorem RdRow_append2 {α : Type} {Q : α → Value → D → Prop} {ts : List α} : ∀ {xs ys : List Value} {ls ks : List (List D)}, RdRow Q ts xs ls → RdRow Q ts ys ks → RdRow Q ts (xs ++ ys) (ls ++ ks)
 | xs, ys, [], ks, h, h2 => by simp only [RdRow] at h; subst h; simpa using h2
 | xs, ys, l :: ls, ks, ⟨c, r, e, h1, h3⟩, h2 => ⟨c, r ++ ys, by rw [e]; simp, h1, RdRow_append2 h3 h2⟩
theorem RdSl_slice {F : Nat → Prop} {rr : List Value → List (List D) → Prop} {agg : Bool} {v : Value} {d : D} (h : RdSl w F rr agg v d) : ∃ ad n c, v = .slice ad n c := by
 obtain ⟨ls, _, ⟨⟨ad, cap, e, _⟩, _⟩ | ⟨b, off, cap, xs, e, _⟩⟩ := h
 ·exact ⟨_, _, _, e⟩
 ·exact ⟨_, _, _, e⟩
theorem RdCs_unit {Q : Unit → Value → D → Prop} {c : List Value} {l : List D} (h : RdCs Q [()] c l) : ∃ v d, c = [v] ∧ l = [d] ∧ Q () v d := by
 cases c with
 | nil => cases l <;> exact h.elim
 | cons v c =>
  cases l with
  | nil => exact h.elim
  | cons d l =>
   obtain ⟨h1, h2⟩ := h
   cases c with
   | nil =>
    cases l with
    | nil => exact ⟨v, d, rfl, rfl, h1⟩
    | cons _ _ => exact h2.elim
   | cons _ _ => cases l <;> exact h2.elim
theorem rr2_one {F : Nat → Prop} {et : ET} : ∀ {xs : List Value} {ls : List (List D)}, rr2 w F et xs ls → ∀ u ∈ xs, u.oneCell' = true
 | xs, [], h, u, hu => by
  have h : xs = [] := h;subst h
  cases hu
 | xs, l :: ls, ⟨c, r, e, h1, h2⟩, u, hu => by
  subst e
  rcases List.mem_append.1 hu with hu | hu
  ·obtain ⟨v, d, rfl, _, h⟩ := RdCs_unit h1
   simp only [List.mem_singleton] at hu;subst hu;obtain ⟨ad, n, c, e⟩ := RdSl_slice h;rw [e]; rfl
  ·exact rr2_one (ls := ls) h2 u hu
theorem moved_row2 {o : Oper} {σ : List D} {et : ET} {e : TypeId} {x : Atom} {u va : Value} {n : Nat} {xs : List Value} {ls : List (List D)} {ha : List SB} {tch : List Nat} (hR : R X M w0 S μ ρ a w) (hr : (execOp a.eval o).run P w = .ok (.value u) w')
  (ht : ∀ γ ∈ tch, ∃ sb, S.heap[γ]? = some sb ∧ mineB sb = true) (hl : ha.length = S.heap.length) (hs : ∀ β, β ∉ tch → ha[β]? = S.heap[β]?) (hdead : ∀ γ ∈ tch, ha[γ]? = some .dead) (hva : ∀ b, blkOf va = some b → ∃ γ ∈ tch, (μ γ).own b)
  (h1 : w'.os = w.os) (h2 : w'.tape = w.tape) (h3 : w'.output = w.output) (hsz : w.heap.size ≤ w'.heap.size) (hblk : ∀ b, b < w.heap.size → blkOf va ≠ some b → w'.heap[b]? = w.heap[b]?) (hfr : ∀ b, blkOf u = some b → w.heap.size ≤ b ∨ blkOf va = some b)
  (hown : w'.ownsRow 0 e 1 u n xs) (hn : ls.length = n) (hrd : rr2 w (Fz X S.heap μ w) et xs ls) (hx : x.get (ρ ++ σ) = some (.lst (ls.map (unflat false)))) :
  HopOk P X M w0 S μ o a w (ρ ++ σ) (.c (.s (.own S.heap.length))) (ha ++ [.row (.s2 et) e x]) tch := by
 have hfr' : ∀ b, blkOf u = some b → w.heap.size ≤ b ∨ ∃ γ, γ ∈ tch ∧ (μ γ).own b := fun b hb => by
  rcases hfr b hb with h | h
  ·exact .inl h
  ·exact .inr (hva b h)
 have m : Move S μ w tch (ha ++ [.row (.s2 et) e x]) (fun β => if β < S.heap.length then μ β else MV.one u) w' :=
  Move.fresh ht hl hs hdead h1 h2 h3 hsz (fun b hb hno => hblk b hb (fun e => by
   obtain ⟨γ, h1, h2⟩ := hva b e
   exact hno γ h1 h2)) (fun b hb => by
   rcases hb with hb | ⟨u, hu, _⟩
   ·exact hfr' b hb
   ·simp [MV.one, MV.inner] at hu)
 have hg := m.grows (X := X) (ρ := ρ)
 refine ⟨_, _, _, _, hr, .inl rfl, m, fun β sb hb h => ?_, ?_⟩
 ·have hβ : β = S.heap.length ∨ sb = .dead := by
   have hlt := (List.getElem?_eq_some_iff.1 hb).1;simp only [List.length_append, hl, List.length_cons, List.length_nil] at hlt
   rcases h with h | h
   ·have hlt2 : β < S.heap.length := by obtain ⟨sb, g1, _⟩ := ht β h; exact (List.getElem?_eq_some_iff.1 g1).1
    rw [List.getElem?_append_left (by omega), hdead β h] at hb
    simp only [Option.some.injEq] at hb;exact .inr hb.symm
   ·left; omega
  rcases hβ with rfl | rfl
  ·rw [List.getElem?_append_right (by omega), hl, Nat.sub_self] at hb
   simp only [List.getElem?_cons_zero, Option.some.injEq] at hb;subst hb;simp only [Nat.lt_irrefl, if_false];refine ⟨rfl, n, xs, ls, hown, fun b hb => ?_, hx, hn, rr2.mono hg.stays _ _ hrd⟩
   rcases hfr' b ((MV.own_flat rfl).1 hb) with h1 | ⟨γ, h1, h2⟩
   ·exact .inl (Nat.le_trans hR.keeps.size h1)
   ·obtain ⟨sb, g3, g4⟩ := ht γ h1
    exact hR.mine g3 g4 h2
  ·trivial
 ·obtain ⟨ad, cap, e'⟩ := ownsRow_slice hown
  exact ⟨by simp [hl], by simp [MV.one], ad, n, cap, by simp [MV.one, e']⟩
theorem buildF_hop {o : Oper} {t : TypeId} {len : Nat} {parts : Array (Nat × Operand)} {l : List (Nat × SV)} {et : ET} {x : Atom} {v : SV} {ps : List Push} {heap' : List SB} {tch : List Nat} {ρ' : List D} (ho : o.op = .buildSlice t len parts) (hR : R X M w0 S μ ρ a w)
  (hl : svParts S none parts.toList = .ok l) (hf : frzOne l = some (et, x)) (h : hopBuildF P S t len et x = .ok (v, ps, heap', tch)) (hp : pushAll ps ρ = some ρ') : HopOk P X M w0 S μ o a w ρ' v heap' tch := by
 have hpr := svParts_ok (g := none) rfl hR.slots hl
 unfold frzOne at hf
 split at hf
 case h_2 => cases hf
 rename_i et0 x0
 simp only [Option.some.injEq, Prod.mk.injEq] at hf
 obtain ⟨rfl, rfl⟩ := hf
 unfold hopBuildF at h
 obtain ⟨k, hk0, h0⟩ := bind_ok h
 clear h
 have hk := need_ok hk0
 clear hk0
 have h := h0
 clear h0
 rcases mkOf_ok hk with ⟨et, e, rfl, ht, hel⟩ | ⟨et, e', e, rfl, ht, hel⟩
 ·dsimp only at h
  cases h
 dsimp only at h
 split at h
 case isFalse => cases h
 rename_i hc
 obtain ⟨rfl, rfl⟩ := hc
 simp only [Except.ok.injEq, Prod.mk.injEq] at h
 obtain ⟨rfl, rfl, rfl, rfl⟩ := h
 generalize hus : (parts.toList.map fun (i, x) => (i, a.eval x)) = vals at *
 match vals, hpr with
 | [(j, u)], ⟨hj, hu, _⟩ =>
 subst hj
 obtain ⟨d, hx, hd⟩ := hu
 obtain ⟨i, hE⟩ := elemSl_ok hel
 obtain ⟨ad, c1, c2, rfl⟩ := RdSl_slice hd
 have hrun0 : (execOp a.eval o).run P w = ((Instr.buildSlice t 1 [(0, Value.slice ad c1 c2)].toArray).run P w).andThen fun v w' => .ok (.value v) w' := by
  have : (parts.map fun (i, x) => (i, a.eval x)) = [(0, Value.slice ad c1 c2)].toArray := by apply Array.ext'; rw [← hus]; simp
  simp [execOp, ho, this]
 have hrun := run_lit (P := P) (w := w) (us := [Value.slice ad c1 c2]) ht hE.info hE.zero (by rw [hE.size]; decide) (by rw [hE.size]; show 1 * 1 ≤ 2 ^ 24; decide) (fun u hu => by
  simp only [List.mem_singleton] at hu;subst hu
  rw [hE.size]; rfl)
 have hrun : (Instr.buildSlice t 1 [(0, Value.slice ad c1 c2)].toArray).run P w = .ok (.slice (some ⟨w.heap.size, 0, none⟩) 1 1) (w.alloc (.cells #[Value.slice ad c1 c2] e)) := hrun
 rw [hrun, Result.andThen_ok] at hrun0
 obtain ⟨d', hd', rfl⟩ := pushAll_one hp
 simp only [evs, List.map_cons, List.map_nil, Atom.ev_of_get hx, Prim.ev, Option.some.injEq] at hd'
 subst hd'
 have hown := World.ownsRow_lit (base := 0) (e := e) (size := 1) w #[Value.slice ad c1 c2] 1 (Nat.zero_le _) (by decide) (by simp)
 have hm := moved_row2 (ls := [[d]]) (e := e) (x := .v S.n) (va := .slice none 0 0) (ha := S.heap) (tch := []) (σ := [D.lst [d]]) hR hrun0 (by simp) rfl (fun _ _ => rfl) (by simp) (fun b hb => by cases hb) rfl rfl rfl (by simp) (fun b hb _ => alloc_old hb)
  (fun b hb => by simp only [blkOf, Option.some.injEq] at hb; omega) (by simpa using hown) rfl ⟨[Value.slice ad c1 c2], [], rfl, ⟨hd, trivial⟩, rfl⟩ (get_new hR.len)
 exact hm
theorem appendF_hop {o : Oper} {s x : Operand} {t : TypeId} {args : Array Operand} {ats : Array TypeId} {sb v : SV} {β : Nat} {et : ET} {e : TypeId} {xa : Atom} {ps : List Push} {heap' : List SB} {tch : List Nat} {ρ' : List D} (ho : o.op = .call { callee := .builtin .append, args := args, argTypes := ats })
  (hargs : args.toList = [s, x]) (hat : ats.toList = [t, t]) (hR : R X M w0 S μ ρ a w) (h1 : SVR w (Fz X S.heap μ w) S.heap.length μ ρ (.c (.s (.own β))) (a.eval s)) (h2 : SVR w (Fz X S.heap μ w) S.heap.length μ ρ sb (a.eval x))
  (hβ : S.heap[β]? = some (.row (.s2 et) e xa)) (h : hopAppendF P S t β et e xa sb = .ok (v, ps, heap', tch)) (hp : pushAll ps ρ = some ρ') : HopOk P X M w0 S μ o a w ρ' v heap' tch := by
 unfold hopAppendF at h
 obtain ⟨k, hk0, h0⟩ := bind_ok h
 clear h
 have hk := need_ok hk0
 clear hk0
 have h := h0
 clear h0
 rcases mkOf_ok hk with ⟨et1, e1, rfl, ht, hel⟩ | ⟨et1, e1', e1, rfl, ht, hel⟩
 ·dsimp only at h
  cases h
 obtain ⟨i, hE⟩ := elemSl_ok hel
 split at h
 case h_2 => cases h
 rename_i et0 e0' e0 γ hkk
 simp only [MK.rows.injEq] at hkk
 obtain ⟨rfl, rfl, rfl⟩ := hkk
 split at h
 case h_2 => cases h
 rename_i et2 e2 y hγ
 split at h
 case isFalse => cases h
 rename_i hc
 obtain ⟨rfl, rfl, rfl⟩ := hc
 simp only [Except.ok.injEq, Prod.mk.injEq] at h
 obtain ⟨rfl, rfl, rfl, rfl⟩ := h
 have hγβ : γ ≠ β := fun e => by
  subst e;rw [List.getElem?_set_self (List.getElem?_eq_some_iff.1 hβ).1] at hγ
  cases hγ
 rw [List.getElem?_set_ne (Ne.symm hγβ)] at hγ
 obtain ⟨_, hv, _⟩ := h1
 obtain ⟨_, hxv, _⟩ := h2
 obtain ⟨hb0, n, xs, ls, b1, b2, b3, b4, b5⟩ := hR.blocks β _ hβ
 obtain ⟨hc0, m, ys, ks, c1, c2, c3, c4, c5⟩ := hR.blocks γ _ hγ
 have hnews : News w (a.eval x) m ys := by
  rw [hxv]
  rcases c1.2 with ⟨q1, q2⟩ | ⟨g, cap, cur, q1, _⟩
  ·refine .inl ⟨q1, q2, List.eq_nil_of_length_eq_zero ?_⟩
   have := c1.1;rw [q2] at this;simpa using this
  ·refine .inr ⟨_, cap, q1, c1.cells (g := g) ?_⟩
   rw [q1]; rfl
 rw [← hv] at b1
 obtain ⟨d, hd, rfl⟩ := pushAll_one hp
 simp only [evs, List.map_cons, List.map_nil, Atom.ev_of_get b3, Atom.ev_of_get c3, Prim.ev, List.length_map] at hd
 split at hd
 case isFalse => cases hd
 rename_i hmax
 simp only [Option.some.injEq] at hd
 subst hd
 have hl : ys.length = m * 1 := c1.1
 obtain ⟨v', w', r1, r2, r3, r4⟩ := run_app (P := P) (ty := o.type) (z := .slice none 0 0) ht hE.info hE.zero (by rw [hE.size]; rfl) (by rw [hE.size]; decide) hE.bytes (by rw [hE.size]; exact b1) (by rw [hE.size]; exact hl) hnews (rr2_one c5) (by omega)
 rw [hE.size] at r2
 obtain ⟨ad, cap, esl⟩ := ownsRow_slice b1
 have hob := ownBlock_blk esl
 refine moved_row2 (σ := [_]) (va := a.eval s) (ha := S.heap.set β .dead) (tch := [β]) hR (app_run ho hargs hat r1) (fun γ hγ => ?_) (by simp) (fun γ hγ => ?_) (fun γ hγ => ?_) (fun b hb => ⟨β, by simp, .inl (by rw [← hv]; exact hb)⟩)
  r3.os r3.tape r3.output r3.size (fun b hb hne => r3.block b hb (fun e => hne (by rw [← hob]; exact e.symm))) r4 r2 (ls := ls ++ ks) (by simp [b4, c4]) (RdRow_append2 b5 c5) ?_
 ·simp only [List.mem_singleton] at hγ; subst hγ; exact ⟨_, hβ, rfl⟩
 ·rw [List.getElem?_set_ne]; simpa [eq_comm] using hγ
 ·simp only [List.mem_singleton] at hγ; subst hγ; rw [List.getElem?_set_self (List.getElem?_eq_some_iff.1 hβ).1]
 ·rw [List.map_append]
  exact get_new hR.len
end
end Vs

