/-
  Pointers, loads, elements of rows.
-/
import Derived.Test.YtfpmhmngebnphaaNs5
namespace Vs
open Go Go.RowKit

/-! ### Lists of cells -/
theorem CVRs.length {w : World} {F : Nat → Prop} {hl : Nat} {μ : Mu} {ρ : List D} : ∀ {cs : List CV} {vs : List Value}, CVRs w F hl μ ρ cs vs → cs.length = vs.length
  | [], [], _ => rfl
  | _ :: _, _ :: _, ⟨_, b⟩ => by simp [CVRs.length b]
theorem CVRs.drop {w : World} {F : Nat → Prop} {hl : Nat} {μ : Mu} {ρ : List D} : ∀ {cs : List CV} {vs : List Value} (n : Nat), CVRs w F hl μ ρ cs vs → CVRs w F hl μ ρ (cs.drop n) (vs.drop n)
  | [], [], _, _ => by simp [CVRs]
  | _ :: _, _ :: _, 0, h => h
  | _ :: _, _ :: _, n + 1, ⟨_, b⟩ => CVRs.drop n b
theorem CVRs.take {w : World} {F : Nat → Prop} {hl : Nat} {μ : Mu} {ρ : List D} : ∀ {cs : List CV} {vs : List Value} (n : Nat), CVRs w F hl μ ρ cs vs → CVRs w F hl μ ρ (cs.take n) (vs.take n)
  | [], [], _, _ => by simp [CVRs]
  | _ :: _, _ :: _, 0, _ => trivial
  | _ :: _, _ :: _, n + 1, ⟨a, b⟩ => ⟨a, CVRs.take n b⟩
theorem CVRs.append {w : World} {F : Nat → Prop} {hl : Nat} {μ : Mu} {ρ : List D} : ∀ {cs : List CV} {vs : List Value} {cs' : List CV} {vs' : List Value}, CVRs w F hl μ ρ cs vs → CVRs w F hl μ ρ cs' vs' → CVRs w F hl μ ρ (cs ++ cs') (vs ++ vs')
  | [], [], _, _, _, h => h
  | _ :: _, _ :: _, _, _, ⟨a, b⟩, h => ⟨a, CVRs.append b h⟩
theorem CVRs.get {w : World} {F : Nat → Prop} {hl : Nat} {μ : Mu} {ρ : List D} : ∀ {cs : List CV} {vs : List Value} {j : Nat} {c : CV}, CVRs w F hl μ ρ cs vs → cs[j]? = some c → ∃ v, vs[j]? = some v ∧ CVR w F hl μ ρ c v
  | _ :: _, _ :: _, 0, c, ⟨a, _⟩, h => by simp only [List.getElem?_cons_zero, Option.some.injEq] at h; subst h; exact ⟨_, rfl, a⟩
  | _ :: _, _ :: _, j + 1, c, ⟨_, b⟩, h => by simp only [List.getElem?_cons_succ] at h ⊢; exact CVRs.get b h

theorem RdCs.length {α : Type} {Q : α → Value → D → Prop} : ∀ {ts : List α} {vs : List Value} {ds : List D}, RdCs Q ts vs ds → vs.length = ts.length ∧ ds.length = ts.length
  | [], [], [], _ => ⟨rfl, rfl⟩
  | _ :: _, _ :: _, _ :: _, ⟨_, b⟩ => by have := RdCs.length b; simp [this.1, this.2]
theorem RdCs.get {α : Type} {Q : α → Value → D → Prop} : ∀ {ts : List α} {vs : List Value} {ds : List D} {j : Nat} {t : α}, RdCs Q ts vs ds → ts[j]? = some t → ∃ v d, vs[j]? = some v ∧ ds[j]? = some d ∧ Q t v d
  | _ :: _, _ :: _, _ :: _, 0, t, ⟨a, _⟩, h => by simp only [List.getElem?_cons_zero, Option.some.injEq] at h; subst h; exact ⟨_, _, rfl, rfl, a⟩
  | _ :: _, _ :: _, _ :: _, j + 1, t, ⟨_, b⟩, h => by simp only [List.getElem?_cons_succ] at h ⊢; exact RdCs.get b h
theorem RdCs.mapT {α β : Type} {Q : α → Value → D → Prop} {Q' : β → Value → D → Prop} (f : α → β) (h : ∀ t v d, Q t v d → Q' (f t) v d) : ∀ {ts : List α} {vs : List Value} {ds : List D}, RdCs Q ts vs ds → RdCs Q' (ts.map f) vs ds
  | [], [], [], _ => trivial
  | _ :: _, _ :: _, _ :: _, ⟨a, b⟩ => ⟨h _ _ _ a, RdCs.mapT f h b⟩

/-! ### An element of a row -/
theorem RdRow.get {α : Type} {Q : α → Value → D → Prop} {ts : List α} : ∀ {ls : List (List D)} {xs : List Value} {i : Nat} {l : List D}, RdRow Q ts xs ls → ls[i]? = some l →
    ∃ c, RdCs Q ts c l ∧ ∀ (j : Nat) u, c[j]? = some u → xs[i * ts.length + j]? = some u
  | l' :: ls, xs, 0, l, ⟨c, r, e, a, b⟩, h => by
    simp only [List.getElem?_cons_zero, Option.some.injEq] at h
    subst h
    refine ⟨c, a, fun j u hu => ?_⟩
    subst e
    rw [Nat.zero_mul, Nat.zero_add, List.getElem?_append_left]
    · exact hu
    · rcases Nat.lt_or_ge j c.length with h | h
      · exact h
      · rw [List.getElem?_eq_none h] at hu; cases hu
  | l' :: ls, xs, i + 1, l, ⟨c, r, e, a, b⟩, h => by
    simp only [List.getElem?_cons_succ] at h
    obtain ⟨c', a', h'⟩ := RdRow.get b h
    refine ⟨c', a', fun j u hu => ?_⟩
    subst e
    have hl := a.length.1
    have := h' j u hu
    rw [List.getElem?_append_right (by rw [hl, Nat.add_mul]; omega)]
    rw [show (i + 1) * ts.length + j - c.length = i * ts.length + j from by rw [hl, Nat.add_mul]; omega]
    exact this

theorem RdRow.length {α : Type} {Q : α → Value → D → Prop} {ts : List α} : ∀ {ls : List (List D)} {xs : List Value}, RdRow Q ts xs ls → xs.length = ls.length * ts.length
  | [], xs, h => by simp only [RdRow] at h; subst h; simp
  | l :: ls, xs, ⟨c, r, e, a, b⟩ => by subst e; rw [List.length_append, a.length.1, RdRow.length b, List.length_cons, Nat.add_mul]; omega

theorem rowCells_length {t : CT} {w : World} {F : Nat → Prop} {xs : List Value} {ls : List (List D)} (h : rowRd w F t xs ls) : (rowCells t).length = rowSz t := by
  cases t with
  | b t => exact h.elim
  | s1 e => simp [rowCells, rowSz]
  | s2 e => rfl

theorem rowRd_get {t : CT} {w : World} {F : Nat → Prop} {xs : List Value} {ls : List (List D)} {i : Nat} {l : List D} (h : rowRd w F t xs ls) (hi : ls[i]? = some l) :
    ∃ c, RdCs (RdC w F) (rowCells t) c l ∧ ∀ (j : Nat) u, c[j]? = some u → xs[i * rowSz t + j]? = some u := by
  cases t with
  | b t => exact h.elim
  | s1 e =>
    obtain ⟨c, hc, hx⟩ := RdRow.get h hi
    exact ⟨c, RdCs.mapT CT.b (fun _ _ _ h => h) hc, hx⟩
  | s2 e =>
    obtain ⟨c, hc, hx⟩ := RdRow.get h hi
    exact ⟨c, RdCs.mapT (ts := [()]) (fun _ => CT.s1 e) (fun _ _ _ h => h) hc, hx⟩

theorem rowRd_sl {t : CT} {w : World} {F : Nat → Prop} {v : Value} {d : D} (h : RdC w F t v d) (ht : ∀ b, t ≠ .b b) : RdSl w F (rowRd w F t) (rowAgg t) v d := by
  cases t with
  | b t => exact absurd rfl (ht t)
  | s1 e => exact h
  | s2 e => exact h

section
variable {P : Program} {w : World} {F : Nat → Prop} {hl : Nat} {μ : Mu} {ρ : List D}

theorem ptrAdd_ok {s q : SV} {k : Nat} {v : Value} (h : ptrAdd s k = .ok q) (hs : SVR w F hl μ ρ s v) : ∃ b o, v = .pointer (some ⟨b, o, none⟩) ∧ SVR w F hl μ ρ q (.pointer (some ⟨b, o + k, none⟩)) := by
  unfold ptrAdd at h
  split at h <;> simp only [Except.ok.injEq, reduceCtorEq] at h
  · subst h
    obtain ⟨hb, b, h1, rfl⟩ := hs
    exact ⟨b, _, rfl, hb, b, h1, rfl⟩
  · subst h
    obtain ⟨hb, b, len, cap, n, h1, h2, h3, h4, rfl⟩ := hs
    refine ⟨b, _, rfl, hb, b, len, cap, n, h1, h2, h3, h4, ?_⟩
    rw [Nat.add_assoc]
  · subst h
    obtain ⟨b, o, rfl, h2, h3⟩ := hs
    refine ⟨b, _, rfl, b, o, ?_, h2, h3⟩
    rw [Nat.add_assoc]

theorem addr_add (b o k : Nat) : (⟨b, o, none⟩ : Addr).add k = ⟨b, o + k, none⟩ := by
  unfold Addr.add
  split
  · rename_i h; subst h; rfl
  · rfl

theorem isAggB_run {t : TypeId} {ag : Bool} (h : isAggB P t = some ag) (w : World) : (isAgg t).run P w = .ok ag w := by
  unfold isAggB at h
  unfold isAgg
  split at h
  · rename_i e; simp only [Option.some.injEq] at h; subst h; simp [run_underlying e]
  · rename_i e; simp only [Option.some.injEq] at h; subst h; simp [run_underlying e]
  · rename_i d e1 e2 e
    simp only [Option.some.injEq] at h; subst h
    simp only [Sem.run_bind, run_underlying e, Result.andThen_ok]
    cases d <;> first | rfl | (rename_i x; exact absurd e (e1 x)) | (rename_i x y; exact absurd e (e2 x y))
  · cases h

theorem sizeB_run {t : TypeId} {n : Nat} (h : sizeB P t = some n) (w : World) : (Go.sizeOf t).run P w = .ok n w := by
  unfold sizeB at h
  obtain ⟨i, hi, rfl⟩ := map_some_eq h
  simp [Go.sizeOf, typeInfo, hi]

theorem loadVar_ok {t : TypeId} {ag : Bool} {sz b o : Nat} {vs : List Value} (ha : isAggB P t = some ag) (hz : sizeB P t = some sz) (hl : vs.length = sz)
    (hc : ∀ (j : Nat) u, vs[j]? = some u → w.cell? ⟨b, o + j, none⟩ = some u) (h0 : 0 < sz) (w' : World) (hw : w'.heap = w.heap) :
    (loadVar t ⟨b, o, none⟩).run P w' = .ok (if ag then .agg vs.toArray else vs.headD Go.undef) w' := by
  have hc' : ∀ (j : Nat) u, vs[j]? = some u → w'.cell? ⟨b, o + j, none⟩ = some u := fun j u hu => by
    have := hc j u hu
    simpa [World.cell?, hw] using this
  unfold loadVar
  simp only [Sem.run_bind, isAggB_run ha, Result.andThen_ok]
  cases ag with
  | true =>
    have := run_loadCells_list (P := P) w' ⟨b, o, none⟩ vs (fun j v hv => by rw [addr_add]; exact hc' j v hv)
    rw [hl] at this
    simp [sizeB_run hz, this]
  | false =>
    cases vs with
    | nil => simp at hl; omega
    | cons v vs =>
      have := hc' 0 v rfl
      simp only [Nat.add_zero] at this
      simp [this]

/-- Cells that a pointer to cells reads: their values. -/
theorem fcel_vals {b o : Nat} : ∀ {cs : List (CT × Atom)} , (∀ (j : Nat) t x, cs[j]? = some (t, x) → ∃ u d, w.cell? ⟨b, o + j, none⟩ = some u ∧ x.get ρ = some d ∧ RdC w F t u d) →
    ∃ vs : List Value, vs.length = cs.length ∧ (∀ (j : Nat) u, vs[j]? = some u → w.cell? ⟨b, o + j, none⟩ = some u) ∧ CVRs w F hl μ ρ (cs.map fun (c, x) => .s (.dat c x)) vs
  | [], _ => ⟨[], rfl, by simp, trivial⟩
  | (t, x) :: cs, h => by
    obtain ⟨u, d, h1, h2, h3⟩ := h 0 t x rfl
    obtain ⟨vs, hl', hv, hr⟩ := fcel_vals (b := b) (o := o + 1) (cs := cs) (fun j t x hj => by
      have := h (j + 1) t x (by simpa using hj)
      rw [show o + 1 + j = o + (j + 1) from by omega]
      exact this)
    refine ⟨u :: vs, by simp [hl'], ?_, ⟨⟨d, h2, h3⟩, hr⟩⟩
    intro j v hj
    cases j with
    | zero => simp only [List.getElem?_cons_zero, Option.some.injEq] at hj; subst hj; exact h1
    | succ j =>
      simp only [List.getElem?_cons_succ] at hj
      have := hv j v hj
      rw [show o + 1 + j = o + (j + 1) from by omega] at this
      exact this

theorem mkSV_ok {ag : Bool} {cs : List CV} {s : SV} {vs : List Value} (h : mkSV ag cs = some s) (hc : CVRs w F hl μ ρ cs vs) : SVR w F hl μ ρ s (if ag then .agg vs.toArray else vs.headD Go.undef) := by
  unfold mkSV at h
  split at h
  · rename_i ha
    simp only [Option.some.injEq] at h; subst h
    simp only [ha]
    exact ⟨_, rfl, by simpa using hc⟩
  · rename_i ha
    split at h
    · simp only [Option.some.injEq] at h; subst h
      match vs, hc with
      | [v], ⟨a, _⟩ => simp only [ha]; exact a
    · cases h

/-- The projections of an element's data. -/
theorem proj_push {l : List D} {x : Atom} : ∀ {ts : List CT} {k : Nat} {ρ ρ' : List D}, x.get ρ = some (.agg l) → pushAll ((ts.zipIdx k).map fun (_, j) => (Prim.proj j, [x])) ρ = some ρ' →
    ∀ (j : Nat), j < ts.length → l[k + j]? ≠ none ∧ ρ'[ρ.length + j]? = l[k + j]? ∧ ∃ σ, ρ' = ρ ++ σ
  | [], k, ρ, ρ', _, _, j, hj => by simp at hj
  | t :: ts, k, ρ, ρ', hx, hp, j, hj => by
    simp only [List.zipIdx_cons, List.map_cons, pushAll, evs, List.map_nil, Atom.ev_of_get hx, Prim.ev] at hp
    split at hp
    · rename_i d hd
      have hx' : x.get (ρ ++ [d]) = some (.agg l) := Atom.get_append hx
      cases j with
      | zero =>
        obtain ⟨σ, e, _⟩ := pushAll_env hp
        subst e
        refine ⟨by simp [hd], ?_, ⟨[d] ++ σ, by simp⟩⟩
        simp [hd]
      | succ j =>
        have := proj_push (k := k + 1) hx' hp j (by simpa using hj)
        obtain ⟨h1, h2, σ, e⟩ := this
        refine ⟨by rw [show k + (j + 1) = k + 1 + j from by omega]; exact h1, ?_, ⟨[d] ++ σ, by simp [e]⟩⟩
        rw [show k + (j + 1) = k + 1 + j from by omega, ← h2]
        congr 1
        simp; omega
    · cases hp

theorem elemCells_ok {t : CT} {x : Atom} {c : List Value} {l : List D} {ρ' : List D} (hx : x.get ρ = some (unflat (rowAgg t) l)) (hc : RdCs (RdC w F) (rowCells t) c l)
    (hp : pushAll (elemCells ρ.length t x).2 ρ = some ρ') :
    ∀ (j : Nat) ct y, (elemCells ρ.length t x).1[j]? = some (ct, y) → ∃ u d, c[j]? = some u ∧ y.get ρ' = some d ∧ RdC w F ct u d := by
  intro j ct y hj
  cases t with
  | b t => simp [elemCells, rowAgg, rowCells] at hj
  | s2 e =>
    simp only [elemCells, rowAgg, rowCells] at hj hp
    cases j with
    | succ j => simp at hj
    | zero =>
      simp at hj
      obtain ⟨rfl, rfl⟩ := hj
      simp only [Bool.false_eq_true, if_false, pushAll, Option.some.injEq] at hp
      subst hp
      obtain ⟨u, d, hu, hd, hr⟩ := RdCs.get hc (t := CT.s1 e) (j := 0) rfl
      have hl := hc.length.2
      match l, hl with
      | [d'], _ =>
        simp only [List.getElem?_cons_zero, Option.some.injEq] at hd
        subst hd
        exact ⟨u, _, hu, by simpa [unflat, rowAgg] using hx, hr⟩
  | s1 e =>
    cases hag : e.agg with
    | true =>
      simp only [elemCells, rowAgg, hag, if_true, rowCells] at hj hp
      simp only [rowAgg, hag, unflat, if_true] at hx
      rw [List.getElem?_map, List.getElem?_zipIdx] at hj
      cases hb : (List.map CT.b e.cells)[j]? with
      | none => simp [hb] at hj
      | some ct' =>
        simp [hb] at hj
        obtain ⟨rfl, rfl⟩ := hj
        obtain ⟨u, d, hu, hd, hr⟩ := RdCs.get hc (t := ct') (j := j) hb
        have hlt : j < (List.map CT.b e.cells).length := by
          rcases Nat.lt_or_ge j (List.map CT.b e.cells).length with h | h
          · exact h
          · rw [List.getElem?_eq_none h] at hb; cases hb
        obtain ⟨_, h2, _⟩ := proj_push (k := 0) hx hp j hlt
        refine ⟨u, d, hu, ?_, hr⟩
        simp only [Atom.get]
        rw [h2, Nat.zero_add]
        exact hd
    | false =>
      simp only [elemCells, rowAgg, hag, Bool.false_eq_true, if_false, pushAll, Option.some.injEq] at hj hp
      simp only [rowAgg, hag, unflat, Bool.false_eq_true, if_false] at hx
      subst hp
      split at hj
      · rename_i ct' hct
        cases j with
        | succ j => simp at hj
        | zero =>
          simp at hj
          obtain ⟨rfl, rfl⟩ := hj
          obtain ⟨u, d, hu, hd, hr⟩ := RdCs.get hc (t := ct') (j := 0) (by rw [hct]; rfl)
          have hl := hc.length.2
          rw [hct] at hl
          match l, hl with
          | [d'], _ =>
            simp only [List.getElem?_cons_zero, Option.some.injEq] at hd
            subst hd
            exact ⟨u, _, hu, hx, hr⟩
      · simp at hj

end
end Vs
