/-
  One operation in the order of the text.
-/
import Derived.Test.YthgocnlbnghbbaaVs10
namespace Vs
open Go Go.RowKit

def effRun (G : Nat → List D → Option (List D)) (ρ : List D) : Eff → Option (List D)
  | .prims ps => pushAll ps ρ
  | .call f xs m => match G f (evs ρ xs) with | some ds => if ds.length = m then some (ρ ++ ds) else none | none => none
def effLen : Eff → Nat
  | .prims ps => ps.length
  | .call _ _ m => m

structure EnvOk (E : Env) (G : Nat → List D → Option (List D)) : Prop where
  ext : ExtOk E.P E.ext
  sig : ∀ f key sg, E.sig f = some (key, sg) → SoundCall E.P f sg (G key)

section
variable {P : Program} {X M : Nat → Prop} {w0 w w' : World} {S : SS} {μ μ' : Mu} {ρ : List D} {a : Act}

/-! ### Guards -/
theorem tmps_get (h : R X M w0 S μ ρ a w) {d : Nat} {s : SV} (hs : S.slots[d]? = some s) : a.tmps[d]? = some (a.tmps.getD d Go.undef) := by
  have hlt : d < a.tmps.size := by
    rw [h.size]
    rcases Nat.lt_or_ge d S.slots.length with h' | h'
    · exact h'
    · rw [List.getElem?_eq_none h'] at hs; cases hs
  rw [Array.getElem?_eq_getElem hlt]
  simp [hlt]

theorem get_lt {i n : Nat} (hn : ρ.length = n) (hi : i < n) : (Atom.v i).get ρ ≠ none := by
  subst hn
  simp only [Atom.get]
  rw [List.getElem?_eq_getElem hi]
  simp

theorem ok_of_get {x : Atom} {b want : Bool} (h : x.get ρ = some (.bool b)) : Guard.ok ρ (some (x, want)) = (b == want) := by
  simp [Guard.ok, Atom.ev_of_get h]

theorem guardOf_ok {ops : Array Oper} {o : Oper} {g : Guard} (h : guardOf S ops.toList o = .ok g) (hR : R X M w0 S μ ρ a w) :
    Region.wanted o (yielded ops a.tmps) = g.ok ρ ∧ (∀ x want, g = some (x, want) → x.get ρ ≠ none) := by
  unfold guardOf at h
  unfold Region.wanted
  split at h
  · rename_i hg
    simp only [Except.ok.injEq] at h
    subst h
    exact ⟨by rw [hg]; rfl, by simp⟩
  · rename_i j want hg
    rw [hg]
    simp only
    split at h
    · rename_i d hd
      have hy : yielded ops a.tmps j = (match a.tmps[d]? with | some (.bool b) => some b | _ => none) := by
        unfold yielded
        have : ops[j]? = ops.toList[j]? := by simp
        rw [this, hd]
        rfl
      rw [hy]
      split at h
      · rename_i i hs
        split at h
        · rename_i hi
          simp only [Except.ok.injEq] at h
          subst h
          obtain ⟨b, hv, hb⟩ := rd_bool (hR.slots d _ hs)
          refine ⟨?_, fun x want e => ?_⟩
          · rw [tmps_get hR hs, hv, ok_of_get hb]
            simp
          · simp only [Option.some.injEq, Prod.mk.injEq] at e
            rw [← e.1]
            exact get_lt hR.len hi
        · cases h
      · rename_i g0 w0' i hs
        split at h
        · rename_i hi
          simp only [Except.ok.injEq] at h
          subst h
          have hh := hR.slots d _ hs
          refine ⟨?_, fun x want e => ?_⟩
          · rw [tmps_get hR hs]
            by_cases hc : g0.get ρ = some (.bool w0')
            · obtain ⟨b, hv, hb⟩ := rd_bool (hh.2.1 hc)
              rw [hv, ok_of_get hb]
              simp
            · obtain ⟨hv, dd, hd', hb⟩ := hh.2.2 hc
              rw [hv]
              have : (Atom.v i).ev ρ = dd := Atom.ev_of_get (x := .v i) hd'
              simp only [Guard.ok, this, Go.undef]
              cases dd <;> first | rfl | exact absurd rfl (hb _)
          · simp only [Option.some.injEq, Prod.mk.injEq] at e
            rw [← e.1]
            exact get_lt hR.len hi
        · cases h
      · cases h
    · cases h

theorem guard_append {g : Guard} (hg : ∀ x want, g = some (x, want) → x.get ρ ≠ none) (σ : List D) : g.ok (ρ ++ σ) = g.ok ρ := by
  cases g with
  | none => rfl
  | some p =>
    obtain ⟨x, want⟩ := p
    have := hg x want rfl
    cases hx : x.get ρ with
    | none => exact absurd hx this
    | some d => simp only [Guard.ok, Atom.ev_of_get hx, Atom.ev_of_get (Atom.get_append (σ := σ) hx)]

theorem wrapG_ok {F : Nat → Prop} {hl : Nat} {g : Guard} {s : SV} {v : Value} (hg : ∀ x want, g = some (x, want) → x.get ρ ≠ none) (hok : g.ok ρ = true) (h : SVR w F hl μ ρ s v) : SVR w F hl μ ρ (wrapG g s) v := by
  unfold wrapG
  split
  · exact h
  · rename_i x want
    exact ⟨hg x want rfl, fun _ => h, fun hn => absurd (guard_get hok) hn⟩

theorem not_ok {x : Atom} {want : Bool} (h : Guard.ok ρ (some (x, want)) = false) : x.get ρ ≠ some (.bool want) := by
  intro hx
  rw [ok_of_get hx] at h
  simp at h

/-- A state whose operation was passed over. -/
theorem R_skip {g : Guard} {s : SV} {slots : List SV} {dst : Option Nat} {m : Nat} (h : R X M w0 S μ ρ a w) (hg : ∀ x want, g = some (x, want) → x.get ρ ≠ none) (hok : g.ok ρ = false) (hp : put S dst (wrapG g s) = .ok slots)
    (hf : freshSV S.n m s = true) :
    R X M w0 { S with n := S.n + m, slots } μ (ρ ++ List.replicate m .undef) (a.put dst Go.undef) w := by
  have h1 := R_env h (List.replicate m .undef)
  simp only [List.length_replicate] at h1
  refine R_put h1 (by simpa [put] using hp) ?_
  cases g with
  | none => simp [Guard.ok] at hok
  | some p =>
    obtain ⟨x, want⟩ := p
    have hx := hg x want rfl
    cases hxe : x.get ρ with
    | none => exact absurd hxe hx
    | some d =>
      have hx' := Atom.get_append (σ := List.replicate m D.undef) hxe
      refine ⟨by rw [hx']; simp, fun hc => ?_, fun _ => ⟨rfl, ?_⟩⟩
      · rw [hx'] at hc
        exact absurd (hxe.trans hc) (not_ok hok)
      · unfold unset
        split
        · rename_i t i
          simp only [freshSV, Bool.and_eq_true, decide_eq_true_eq] at hf
          refine ⟨.undef, ?_, by simp⟩
          rw [List.getElem?_append_right (by rw [h.len]; exact hf.1), List.getElem?_replicate, if_pos (by rw [h.len]; omega)]
        · trivial

/-! ### Arguments -/
theorem own_read (h : R X M w0 S μ ρ a w) {β : Nat} {t : CT} {e : TypeId} {x : Atom} (hb : S.heap[β]? = some (.row t e x)) : ∃ d, x.get ρ = some d ∧ RdC w (fun b => b < w.heap.size) t (μ β) d := by
  obtain ⟨n, xs, ls, h1, h2, h3, h4, h5⟩ := h.blocks β _ hb
  refine ⟨_, h3, ?_⟩
  have hst : Stays (Fz X S.heap μ w) (fun b => b < w.heap.size) w w := ⟨fun _ h => h.1.1, fun _ _ => rfl⟩
  have h5' := h5.mono hst
  have key : RdSl w (fun b => b < w.heap.size) (rowRd w (fun b => b < w.heap.size) t) (rowAgg t) (μ β) (.lst (ls.map (unflat (rowAgg t)))) := by
    refine ⟨ls, rfl, ?_⟩
    rcases h1.2 with ⟨e1, e2⟩ | ⟨g, cap, cur, e1, _, e3, _, _, _, e4⟩
    · exact .inl ⟨e1, List.eq_nil_of_length_eq_zero (by omega)⟩
    · refine .inr ⟨g, 0, cap, xs, by rw [h4]; exact e1, (Array.getElem?_eq_some_iff.1 e3).1, fun j u hu => ?_, h5'⟩
      rw [cell_of_cells e3, Nat.zero_add]
      rw [← e4, List.getElem?_take] at hu
      split at hu
      · simpa using hu
      · cases hu
  cases t with
  | b t => exact h5.elim
  | s1 e => exact key
  | s2 e => exact key

theorem cellAtom_ok (h : R X M w0 S μ ρ a w) {t : CT} {c : CV} {x : Atom} {v : Value} (hc : cellAtom S t c = .ok x) (hv : CVR w (Fz X S.heap μ w) S.heap.length μ ρ c v) :
    ∃ d, x.get ρ = some d ∧ RdC w (fun b => b < w.heap.size) t v d := by
  unfold cellAtom at hc
  split at hc
  · split at hc
    · rename_i ht
      subst ht
      simp only [Except.ok.injEq] at hc
      subst hc
      obtain ⟨d, hx, hd⟩ := hv
      exact ⟨d, hx, hd.mono ⟨fun _ h => h.1.1, fun _ _ => rfl⟩⟩
    · cases hc
  · split at hc
    · cases hc
    · rename_i hb
      simp only [Except.ok.injEq] at hc
      subst hc
      simp only [CVR, CVR0] at hv
      subst hv
      refine ⟨_, rfl, ?_⟩
      cases t with
      | b t => exact absurd rfl (hb t)
      | s1 e => exact ⟨[], rfl, .inl ⟨rfl, rfl⟩⟩
      | s2 e => exact ⟨[], rfl, .inl ⟨rfl, rfl⟩⟩
  · split at hc
    · rename_i hrow
      split at hc
      · rename_i ht
        subst ht
        simp only [Except.ok.injEq] at hc
        subst hc
        obtain ⟨_, rfl, _⟩ := hv
        exact own_read h hrow
      · cases hc
    · cases hc
  · cases hc

theorem cellAtoms_ok (h : R X M w0 S μ ρ a w) : ∀ {ts : List CT} {cs : List CV} {xs : List Atom} {vs : List Value}, cellAtoms S ts cs = .ok xs → CVRs w (Fz X S.heap μ w) S.heap.length μ ρ cs vs →
    RdCs (RdC w (fun b => b < w.heap.size)) ts vs (evs ρ xs)
  | [], [], xs, [], hx, _ => by simp only [cellAtoms, Except.ok.injEq] at hx; subst hx; trivial
  | t :: ts, c :: cs, xs, v :: vs, hx, ⟨h1, h2⟩ => by
    simp only [cellAtoms] at hx
    obtain ⟨x, hc, hx⟩ := bind_ok hx
    obtain ⟨ys, hcs, hx⟩ := bind_ok hx
    simp only [Except.ok.injEq] at hx
    subst hx
    obtain ⟨d, hd, hr⟩ := cellAtom_ok h hc h1
    refine ⟨?_, cellAtoms_ok h hcs h2⟩
    show RdC w _ t v (x.ev ρ)
    rw [Atom.ev_of_get hd]
    exact hr
  | [], _ :: _, _, _, hx, _ => by simp [cellAtoms] at hx
  | _ :: _, [], _, _, hx, _ => by simp [cellAtoms] at hx

theorem paramAtoms_ok (h : R X M w0 S μ ρ a w) : ∀ {ps : List PK} {ss : List SV} {xs : List Atom} {vs : List Value}, paramAtoms S ps ss = .ok xs → ss.length = vs.length →
    (∀ (j : Nat) s u, ss[j]? = some s → vs[j]? = some u → SVR w (Fz X S.heap μ w) S.heap.length μ ρ s u) → ArgsR w (fun b => b < w.heap.size) ps vs (evs ρ xs)
  | [], [], xs, [], hx, _, _ => by
    simp only [paramAtoms, Except.ok.injEq] at hx
    subst hx
    rfl
  | [], [], _, _ :: _, _, hl, _ => by simp at hl
  | .val _ _ :: _, _ :: _, _, [], _, hl, _ => by simp at hl
  | .ptr _ :: _, _ :: _, _, [], _, hl, _ => by simp at hl
  | .val ag ts :: ps, s :: ss, xs, v :: vs, hx, hl, hs => by
    have hv := hs 0 s v rfl rfl
    have hs' : ∀ (j : Nat) s u, ss[j]? = some s → vs[j]? = some u → SVR w (Fz X S.heap μ w) S.heap.length μ ρ s u := fun j s u h1 h2 => hs (j + 1) s u (by simpa using h1) (by simpa using h2)
    simp only [paramAtoms] at hx
    split at hx
    · rename_i ag' cs hcs
      split at hx
      · rename_i hag
        subst hag
        obtain ⟨ys, h1, hx⟩ := bind_ok hx
        obtain ⟨zs, h2, hx⟩ := bind_ok hx
        simp only [Except.ok.injEq] at hx
        subst hx
        refine ⟨evs ρ ys, evs ρ zs, by simp [evs], ?_, paramAtoms_ok h h2 (by simpa using hl) hs'⟩
        unfold svCells at hcs
        split at hcs <;> simp only [Option.some.injEq, Prod.mk.injEq, reduceCtorEq] at hcs
        · obtain ⟨rfl, rfl⟩ := hcs
          have := cellAtoms_ok h h1 (vs := [v]) ⟨hv, trivial⟩
          have hl1 := this.length
          obtain ⟨t, rfl⟩ := List.length_eq_one_iff.1 hl1.1.symm
          obtain ⟨d, hd⟩ := List.length_eq_one_iff.1 hl1.2
          rw [hd] at this ⊢
          exact ⟨t, d, rfl, rfl, this.1⟩
        · obtain ⟨rfl, rfl⟩ := hcs
          obtain ⟨arr, rfl, hc⟩ := hv
          exact ⟨arr, rfl, cellAtoms_ok h h1 hc⟩
      · cases hx
    · cases hx
  | .ptr ts :: ps, s :: ss, xs, v :: vs, hx, hl, hs => by
    have hv := hs 0 s v rfl rfl
    have hs' : ∀ (j : Nat) s u, ss[j]? = some s → vs[j]? = some u → SVR w (Fz X S.heap μ w) S.heap.length μ ρ s u := fun j s u h1 h2 => hs (j + 1) s u (by simpa using h1) (by simpa using h2)
    simp only [paramAtoms] at hx
    split at hx
    · rename_i β
      split at hx
      · rename_i cs hcs
        obtain ⟨ys, h1, hx⟩ := bind_ok hx
        obtain ⟨zs, h2, hx⟩ := bind_ok hx
        simp only [Except.ok.injEq] at hx
        subst hx
        refine ⟨evs ρ ys, evs ρ zs, by simp [evs], ?_, paramAtoms_ok h h2 (by simpa using hl) hs'⟩
        obtain ⟨_, b, hb, rfl⟩ := hv
        obtain ⟨b', arr, T, hb', _, hheap, hC⟩ := h.blocks β _ hcs
        rw [hb] at hb'
        simp only [Value.pointer.injEq, Option.some.injEq, Addr.mk.injEq, and_true] at hb'
        subst hb'
        exact ⟨b, 0, arr.toList, rfl, (Array.getElem?_eq_some_iff.1 hheap).1, fun j u hu => by rw [cell_of_cells hheap, Nat.zero_add]; simpa using hu, cellAtoms_ok h h1 hC⟩
      · cases hx
    · rename_i cs
      obtain ⟨ys, h1, hx⟩ := bind_ok hx
      obtain ⟨zs, h2, hx⟩ := bind_ok hx
      simp only [Except.ok.injEq] at hx
      subst hx
      refine ⟨evs ρ ys, evs ρ zs, by simp [evs], ?_, paramAtoms_ok h h2 (by simpa using hl) hs'⟩
      obtain ⟨b, o, rfl, hF, hc⟩ := hv
      obtain ⟨us, hul, huc, hC⟩ := vals_of (w := w) (F := Fz X S.heap μ w) (ρ := ρ) (cs := cs) (Pos := fun j u => w.cell? ⟨b, o + j, none⟩ = some u) (hl := S.heap.length) (μ := μ) hc
      exact ⟨b, o, us, rfl, hF.1.1, huc, cellAtoms_ok h h1 hC⟩
    · cases hx
  | [], _ :: _, _, _, hx, _, _ => by simp [paramAtoms] at hx
  | .val _ _ :: _, [], _, _, hx, _, _ => by simp [paramAtoms] at hx
  | .ptr _ :: _, [], _, _, hx, _, _ => by simp [paramAtoms] at hx

end
end Vs
