/-
  Addresses of elements, composites, lengths, choices, functions of the library: and all local operations together.
-/
import Derived.Test.YtfpmhmngebnphaaNs7
import Derived.Laws.Tables
namespace Vs
open Go Go.RowKit

section
variable {P : Program} {X : Nat → Prop} {M : Hand} {w0 w : World} {S : SS} {μ : Mu} {ρ : List D} {a : Act}

theorem map_get_lt {ls : List (List D)} {i : Nat} {ag : Bool} {d : D} (h : (ls.map (unflat ag))[i]? = some d) : ∃ l, ls[i]? = some l ∧ d = unflat ag l := by
  rw [List.getElem?_map] at h
  obtain ⟨l, hl, e⟩ := map_some_eq h
  exact ⟨l, hl, e.symm⟩

theorem lopIndexAddr_ok {t : TypeId} {x i v : SV} {ps : List Push} {vx vi : Value} {ρ' : List D} (h : lopIndexAddr P S t x i = .ok (v, ps)) (hR : R X M w0 S μ ρ a w)
    (hx : SVR w (Fz X S.heap μ w) S.heap.length μ ρ x vx) (hi : SVR w (Fz X S.heap μ w) S.heap.length μ ρ i vi) (hp : pushAll ps ρ = some ρ') :
    ∃ u, (Instr.indexAt t vx vi).run P w = .ok u w ∧ SVR w (Fz X S.heap μ w) S.heap.length μ ρ' v u := by
  unfold lopIndexAddr at h
  split at h
  · rename_i e k ix hs
    obtain ⟨n, rfl, hn⟩ := rd_int hi
    split at h
    · -- a frozen slice of plain elements
      rename_i et l
      split at h
      · rename_i hz
        simp only [Except.ok.injEq, Prod.mk.injEq] at h
        obtain ⟨rfl, rfl⟩ := h
        obtain ⟨d, hl, ls, rfl, hd⟩ := hx
        simp only [pushAll, evs, List.map_cons, List.map_nil, Atom.ev_of_get hl, Atom.ev_of_get hn, Prim.ev, List.length_map] at hp
        split at hp
        · rename_i d hd'
          split at hd'
          · rename_i hb
            obtain ⟨el, hel, rfl⟩ := map_get_lt hd'
            rcases hd with ⟨_, rfl⟩ | ⟨b, off, cap, xs, rfl, _, hF, hc, hrr⟩
            · simp at hel
            have hn1 : (ρ ++ [unflat et.agg el]).length = S.n + 1 := by simp [hR.len]
            obtain ⟨c, hcc, hcx⟩ := rowRd_get (w := w) (F := Fz X S.heap μ w) (t := .s1 et) hrr hel
            rw [← hn1] at hp ⊢
            have hgo := elemCells_ok (w := w) (F := Fz X S.heap μ w) (t := .s1 et) (x := .v S.n) (ρ := ρ ++ [unflat et.agg el]) (get_new hR.len) hcc hp
            refine ⟨.pointer (some ⟨b, off + n.toNat * et.cells.length, none⟩), ?_, b, off + n.toNat * et.cells.length, rfl, hF, ?_⟩
            · simp [Instr.indexAt, asIntOf, run_underlying hs, sizeB_run hz, addr_add, hb.1, hb.2]
            · intro j c hj
              rw [List.getElem?_map] at hj
              obtain ⟨⟨t, x⟩, hj', rfl⟩ := map_some_eq hj
              obtain ⟨u, d, hu, hd, hr⟩ := hgo j t x hj'
              refine ⟨u, ?_, d, hd, hr⟩
              have := hc _ _ (hcx _ _ hu)
              rw [Nat.add_assoc]
              exact this
          · cases hd'
        · cases hp
      · cases h
    · -- a frozen slice of slices
      rename_i et l
      split at h
      · rename_i hz
        simp only [Except.ok.injEq, Prod.mk.injEq] at h
        obtain ⟨rfl, rfl⟩ := h
        obtain ⟨d, hl, ls, rfl, hd⟩ := hx
        obtain ⟨d, hd', rfl⟩ := pushAll_one hp
        simp only [evs, List.map_cons, List.map_nil, Atom.ev_of_get hl, Atom.ev_of_get hn, Prim.ev, List.length_map] at hd'
        split at hd'
        · rename_i hb
          obtain ⟨el, hel, rfl⟩ := map_get_lt hd'
          rcases hd with ⟨_, rfl⟩ | ⟨b, off, cap, xs, rfl, _, hF, hc, hrr⟩
          · simp at hel
          obtain ⟨c, hcc, hcx⟩ := rowRd_get (w := w) (F := Fz X S.heap μ w) (t := .s2 et) hrr hel
          refine ⟨.pointer (some ⟨b, off + n.toNat * 1, none⟩), ?_, b, off + n.toNat * 1, rfl, hF, ?_⟩
          · simp [Instr.indexAt, asIntOf, run_underlying hs, sizeB_run hz, addr_add, hb.1, hb.2]
          · intro j c hj
            cases j with
            | succ j => simp at hj
            | zero =>
              simp only [List.getElem?_cons_zero, Option.some.injEq] at hj
              subst hj
              obtain ⟨u, d, hu, hd, hr⟩ := RdCs.get hcc (t := CT.s1 et) (j := 0) rfl
              have hl := hcc.length.2
              match el, hl with
              | [d'], _ =>
                simp only [List.getElem?_cons_zero, Option.some.injEq] at hd
                subst hd
                refine ⟨u, ?_, _, get_new hR.len, by simpa [unflat] using hr⟩
                have := hc _ _ (hcx _ _ hu)
                simpa [rowSz] using this
        · cases hd'
      · cases h
    · -- an own row
      rename_i β
      split at h
      · rename_i rt e' l hrow
        split at h
        · rename_i hz
          simp only [Except.ok.injEq, Prod.mk.injEq] at h
          obtain ⟨rfl, rfl⟩ := h
          obtain ⟨hβ, rfl, _⟩ := hx
          obtain ⟨_, m, xs, ls, hown, _, hl, hm, hrd⟩ := hR.blocks β _ hrow
          obtain ⟨d, hd', rfl⟩ := pushAll_one hp
          simp only [evs, List.map_cons, List.map_nil, Atom.ev_of_get hl, Atom.ev_of_get hn, Prim.ev, List.length_map] at hd'
          split at hd'
          · rename_i hb
            rcases hown.2 with ⟨_, h0⟩ | ⟨g, cap', cur, hsl, _, hheap, _, _, _, htake⟩
            · omega
            refine ⟨.pointer (some ⟨g, n.toNat * rowSz rt, none⟩), ?_, hβ, g, m, cap', n, hsl, Atom.get_append hn, hb.1, by omega, rfl⟩
            rw [hsl]
            have h2 : n < (m : Int) := by omega
            simp [Instr.indexAt, asIntOf, run_underlying hs, sizeB_run hz, addr_add, hb.1, h2]
          · cases hd'
        · cases h
      · -- an own row of own rows
        rename_i et f e' ver l hrow
        split at h
        · rename_i hz
          simp only [Except.ok.injEq, Prod.mk.injEq] at h
          obtain ⟨rfl, rfl⟩ := h
          obtain ⟨hβ, rfl, _⟩ := hx
          obtain ⟨_, m, ls, hown, _, hl, hm, _⟩ := hR.blocks β _ hrow
          obtain ⟨d, hd', rfl⟩ := pushAll_one hp
          simp only [evs, List.map_cons, List.map_nil, Atom.ev_of_get hl, Atom.ev_of_get hn, rowsDat, Prim.ev, List.length_map] at hd'
          split at hd'
          · rename_i hb
            rcases hown.2 with ⟨_, h0⟩ | ⟨g, cap', cur, hsl, _, hheap, _, _, _, htake⟩
            · omega
            refine ⟨.pointer (some ⟨g, n.toNat * 1, none⟩), ?_, hβ, g, m, cap', n, hsl, Atom.get_append hn, hb.1, by omega, rfl⟩
            rw [hsl]
            have h2 : n < (m : Int) := by omega
            simp [Instr.indexAt, asIntOf, run_underlying hs, sizeB_run hz, addr_add, hb.1, h2]
          · cases hd'
        · cases h
      · cases h
    · cases h
  · rename_i len e k ix hs
    split at h
    · rename_i j sz hj hz
      have := rd_nat hi hj
      subst this
      split at h
      · rename_i hlt
        obtain ⟨q, hq, h⟩ := bind_ok h
        simp only [Except.ok.injEq, Prod.mk.injEq] at h
        obtain ⟨rfl, rfl⟩ := h
        obtain ⟨b, o, rfl, hq'⟩ := ptrAdd_ok hq hx
        simp only [pushAll, Option.some.injEq] at hp
        subst hp
        refine ⟨_, ?_, hq'⟩
        simp [Instr.indexAt, asIntOf, run_underlying hs, sizeB_run hz, addr_add, Instr.sureAddr]
        intro h3; omega
      · cases h
    · cases h
  · cases h

theorem lopLen_ok {t : TypeId} {x v : SV} {ps : List Push} {vx : Value} {ρ' : List D} {ty : TypeId} {ats : Array TypeId} (h : lopLen P S t x = .ok (v, ps)) (hR : R X M w0 S μ ρ a w) (hat : ats[0]? = some t)
    (hx : SVR w (Fz X S.heap μ w) S.heap.length μ ρ x vx) (hp : pushAll ps ρ = some ρ') :
    ∃ u, (Builtin.len_ ats ty #[vx]).run P w = .ok u w ∧ SVR w (Fz X S.heap μ w) S.heap.length μ ρ' v u := by
  have key : ∀ (e : TypeId) (l : Atom) (n : Nat) (ds : List D), P.underlying t = some (.slice e) → l.get ρ = some (.lst ds) → ds.length = n → (∃ a cap, vx = .slice a n cap) → pushAll [(Prim.len, [l])] ρ = some ρ' →
      ∃ u, (Builtin.len_ ats ty #[vx]).run P w = .ok u w ∧ SVR w (Fz X S.heap μ w) S.heap.length μ ρ' (bdat (.int .i64) (.v S.n)) u := by
    intro e l n ds hs hl hn ⟨ad, cap, hv⟩ hp
    subst hv
    obtain ⟨d, hd, rfl⟩ := pushAll_one hp
    simp only [evs, List.map_cons, List.map_nil, Atom.ev_of_get hl, Prim.ev, Option.some.injEq] at hd
    subst hd
    refine ⟨.int .i64 n, ?_, mk_int (by rw [← hn]; exact get_new hR.len)⟩
    simp [Builtin.len_, hat, run_underlying hs, goInt]
  have frozen : ∀ (ct : CT) (l : Atom), (∀ b, ct ≠ .b b) → SVR w (Fz X S.heap μ w) S.heap.length μ ρ (.c (.s (.dat ct l))) vx → ∃ ds n, l.get ρ = some (.lst ds) ∧ ds.length = n ∧ ∃ a cap, vx = .slice a n cap := by
    intro ct l hct ⟨d, hl, hd⟩
    obtain ⟨ls, rfl, hd2⟩ := rowRd_sl hd hct
    rcases hd2 with ⟨⟨a, cap, rfl, _⟩, rfl⟩ | ⟨b, off, cap, xs, rfl, _⟩
    · exact ⟨_, 0, hl, rfl, _, _, rfl⟩
    · exact ⟨_, _, hl, by simp, _, _, rfl⟩
  unfold lopLen at h
  split at h
  · rename_i e et l hs
    simp only [Except.ok.injEq, Prod.mk.injEq] at h
    obtain ⟨rfl, rfl⟩ := h
    obtain ⟨ds, n, h1, h2, h3⟩ := frozen _ l (by simp) hx
    exact key e l n ds hs h1 h2 h3 hp
  · rename_i e et l hs
    simp only [Except.ok.injEq, Prod.mk.injEq] at h
    obtain ⟨rfl, rfl⟩ := h
    obtain ⟨ds, n, h1, h2, h3⟩ := frozen _ l (by simp) hx
    exact key e l n ds hs h1 h2 h3 hp
  · rename_i e β hs
    split at h
    · rename_i rt e' l hrow
      simp only [Except.ok.injEq, Prod.mk.injEq] at h
      obtain ⟨rfl, rfl⟩ := h
      obtain ⟨hβ, rfl, _⟩ := hx
      obtain ⟨_, m, xs, ls, hown, _, hl, hm, hrd⟩ := hR.blocks β _ hrow
      refine key e l m _ hs hl (by simp [hm]) ?_ hp
      rcases hown.2 with ⟨h1, h0⟩ | ⟨g, cap', cur, hsl, _⟩
      · subst h0; exact ⟨_, _, h1⟩
      · exact ⟨_, _, hsl⟩
    · rename_i et f e' ver l hrow
      simp only [Except.ok.injEq, Prod.mk.injEq] at h
      obtain ⟨rfl, rfl⟩ := h
      obtain ⟨hβ, rfl, _⟩ := hx
      obtain ⟨_, m, ls, hown, _, hl, hm, _⟩ := hR.blocks β _ hrow
      exact key e l m _ hs hl (by simp [hm]) (ownsRow_slice hown) hp
    · cases h
  · cases h

end

section
variable {P : Program} {w : World} {F : Nat → Prop} {hl : Nat} {μ : Mu} {ρ : List D}

/-! ### Composites -/
theorem foldl_fill (off : Nat) : ∀ (vs : List Value) (k : Nat) (arr : Array Value), off + k + vs.length ≤ arr.size →
    ((vs.zipIdx k).foldl (fun (cs : Array Value) (x : Value × Nat) => cs.setIfInBounds (off + x.2) x.1) arr).toList = arr.toList.take (off + k) ++ vs ++ arr.toList.drop (off + k + vs.length)
  | [], k, arr, _ => by simp
  | v :: vs, k, arr, h => by
    simp only [List.length_cons] at h
    rw [List.zipIdx_cons, List.foldl_cons, foldl_fill off vs (k + 1) _ (by simp; omega)]
    have h1 : off + k < arr.toList.length := by simp; omega
    have h2 : off + k < (arr.toList.set (off + k) v).length := by simpa using h1
    simp only [Array.toList_setIfInBounds]
    rw [show off + (k + 1) = off + k + 1 from rfl, List.take_succ_eq_append_getElem h2, List.getElem_set_self, List.take_set_of_le (Nat.le_refl _), List.drop_set_of_lt (by omega)]
    rw [show off + k + 1 + vs.length = off + k + (v :: vs).length from by simp; omega]
    simp

theorem CVR_one {c : CV} {v : Value} (hp : plainCV c = true) (h : CVR w F hl μ ρ c v) : v.oneCell' = true := by
  have sl : ∀ (rr : List Value → List (List D) → Prop) (ag : Bool) (d : D), RdSl w F rr ag v d → v.oneCell' = true := by
    rintro rr ag d ⟨ls, _, ⟨⟨a, cap, rfl, _⟩, _⟩ | ⟨b, off, cap, xs, rfl, _⟩⟩ <;> rfl
  cases c with
  | fn f caps => obtain ⟨cs, rfl, _⟩ := h; rfl
  | s c =>
    cases c with
    | undef => simp [plainCV] at hp
    | nils => simp only [CVR, CVR0] at h; subst h; rfl
    | dat t x =>
      obtain ⟨d, _, hd⟩ := h
      cases t with
      | b t => cases t <;> (obtain ⟨n, rfl, _⟩ := hd; rfl)
      | s1 e => exact sl _ _ _ hd
      | s2 e => exact sl _ _ _ hd
    | own β => obtain ⟨_, rfl, a, l, c, e⟩ := h; rw [e]; rfl
    | vptr β off => obtain ⟨_, b, _, rfl⟩ := h; rfl
    | eptr β i sz off => obtain ⟨_, b, _, _, _, _, _, _, _, rfl⟩ := h; rfl
    | rref β ver i => obtain ⟨_, l, n, _, _, _, _, a, len, cap, rfl⟩ := h; rfl
    | fcel cs off => obtain ⟨b, o, rfl, _⟩ := h; rfl

theorem cells_one {v : Value} (h : v.oneCell' = true) : v.cells = #[v] := by cases v <;> first | rfl | (simp [Value.oneCell'] at h; done)

theorem svCells_ok {s : SV} {ag : Bool} {cs : List CV} {v : Value} (h : svCells s = some (ag, cs)) (hp : cs.all plainCV = true) (hs : SVR w F hl μ ρ s v) : CVRs w F hl μ ρ cs v.cells.toList := by
  unfold svCells at h
  split at h <;> simp only [Option.some.injEq, Prod.mk.injEq, reduceCtorEq] at h
  · obtain ⟨rfl, rfl⟩ := h
    rw [cells_one (CVR_one (by simpa using hp) hs)]
    exact ⟨hs, trivial⟩
  · obtain ⟨rfl, rfl⟩ := h
    obtain ⟨arr, rfl, hc⟩ := hs
    exact hc

theorem CVRs_one {cs : List CV} {vs : List Value} (hp : cs.all plainCV = true) (h : CVRs w F hl μ ρ cs vs) : ∀ v ∈ vs, v.oneCell' = true := by
  induction cs generalizing vs with
  | nil => cases vs with | nil => simp | cons _ _ => exact h.elim
  | cons c cs ih =>
    cases vs with
    | nil => exact h.elim
    | cons u us =>
      simp only [List.all_cons, Bool.and_eq_true] at hp
      intro v hv
      rcases List.mem_cons.1 hv with rfl | hv
      · exact CVR_one hp.1 h.1
      · exact ih hp.2 h.2 v hv

/-- Parts beside their values. -/
def PartsR (w : World) (F : Nat → Prop) (hl : Nat) (μ : Mu) (ρ : List D) : List (Nat × SV) → List (Nat × Value) → Prop
  | [], [] => True
  | (i, s) :: r, (j, v) :: q => i = j ∧ SVR w F hl μ ρ s v ∧ PartsR w F hl μ ρ r q
  | _, _ => False

theorem fillS_ok {place : Nat → Option (Nat × Nat)} : ∀ {parts : List (Nat × SV)} {vals : List (Nat × Value)} {cs cs' : List CV} {arr : Array Value}, fillS place cs parts = .ok cs' → CVRs w F hl μ ρ cs arr.toList →
    PartsR w F hl μ ρ parts vals → ∃ arr', Instr.fill place arr vals = some arr' ∧ CVRs w F hl μ ρ cs' arr'.toList
  | [], [], cs, cs', arr, h, hc, _ => by simp only [fillS, Except.ok.injEq] at h; subst h; exact ⟨arr, rfl, hc⟩
  | (i, s) :: r, (j, v) :: q, cs, cs', arr, h, hc, ⟨hij, hs, hr⟩ => by
    subst hij
    simp only [fillS] at h
    split at h
    · rename_i off sz ag vs hpl hcl
      split at h
      · rename_i hlen
        have hv := svCells_ok hcl hlen.2.2 hs
        have hvl : v.cells.size = sz := by have := hv.length; simp at this; omega
        have hcl' : cs.length = arr.size := by have := hc.length; simpa using this
        have hsp : (v.cells.zipIdx.foldl (fun (cs : Array Value) (x : Value × Nat) => cs.setIfInBounds (off + x.2) x.1) arr).toList = arr.toList.take off ++ v.cells.toList ++ arr.toList.drop (off + vs.length) := by
          have e := foldl_fill off v.cells.toList 0 arr (by have := hv.length; simp at this ⊢; omega)
          rw [← Array.foldl_toList, Array.toList_zipIdx]
          rw [e]
          have := hv.length
          simp at this ⊢
          rw [this]
        have hc' : CVRs w F hl μ ρ (cs.take off ++ vs ++ cs.drop (off + vs.length)) (v.cells.zipIdx.foldl (fun (cs : Array Value) (x : Value × Nat) => cs.setIfInBounds (off + x.2) x.1) arr).toList := by
          rw [hsp]
          exact ((hc.take off).append hv).append (hc.drop _)
        obtain ⟨arr', h1, h2⟩ := fillS_ok h hc' hr
        refine ⟨arr', ?_, h2⟩
        simp only [Instr.fill, hpl]
        rw [if_neg]
        · exact h1
        · have := hlen.2.1
          have := hv.length
          simp at this ⊢
          omega
      · cases h
    · cases h

theorem lopBuild_ok {t : TypeId} {parts : List (Nat × SV)} {vals : Array (Nat × Value)} {v : SV} {ps : List Push} (h : lopBuild P t parts = .ok (v, ps)) (hp : PartsR w F hl μ ρ parts vals.toList) :
    ps = [] ∧ ∃ u, (Instr.build t vals).run P w = .ok u w ∧ SVR w F hl μ ρ v u := by
  unfold lopBuild at h
  obtain ⟨i, hi0, h1⟩ := bind_ok h
  obtain ⟨z, hz0, h2⟩ := bind_ok h1
  obtain ⟨zs, hzs0, h3⟩ := bind_ok h2
  have hi := need_ok hi0
  have hz := need_ok hz0
  have hzs := litCells_ok (w := w) (F := F) (hl := hl) (μ := μ) (ρ := ρ) (need_ok hzs0)
  clear h h1 h2 hi0 hz0 hzs0
  split at h3
  · rename_i fs hs
    obtain ⟨places, hpl, h4⟩ := bind_ok h3
    obtain ⟨cs, hcs, h5⟩ := bind_ok h4
    simp only [Except.ok.injEq, Prod.mk.injEq] at h5
    obtain ⟨rfl, rfl⟩ := h5
    obtain ⟨arr', hf, hc⟩ := fillS_ok hcs hzs hp
    refine ⟨rfl, .agg arr', run_build w t vals arr' ?_, arr', rfl, hc⟩
    simp only [Program.built, hi, hs, hz, need_ok hpl]
    exact hf
  · rename_i n e hs
    obtain ⟨ie, hie, h4⟩ := bind_ok h3
    obtain ⟨cs, hcs, h5⟩ := bind_ok h4
    simp only [Except.ok.injEq, Prod.mk.injEq] at h5
    obtain ⟨rfl, rfl⟩ := h5
    obtain ⟨arr', hf, hc⟩ := fillS_ok hcs hzs hp
    refine ⟨rfl, .agg arr', run_build w t vals arr' ?_, arr', rfl, hc⟩
    simp only [Program.built, hi, hs, hz, need_ok hie]
    exact hf
  · cases h3

end
end Vs
