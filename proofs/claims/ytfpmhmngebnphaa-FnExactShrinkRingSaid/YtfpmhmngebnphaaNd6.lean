/-
  Regions whose order is open: what is checked is enough.
-/
import Derived.Test.YtfpmhmngebnphaaNd5
namespace Vs
open Go Go.RowKit

section
variable {E : Env} {ops : Array Oper} {H : Hint} {rs : List Rec} {S0 Z : SS}

structure RecAt (E : Env) (ops : Array Oper) (H : Hint) (r : Rg) (i : Nat) (o : Oper) : Prop where
  view : r.V i = viewOf H (r.A i) i
  sop : sop E ops.toList (r.V i) o = .ok (r.S' i, r.g i, r.eff i, H.tch i)
  step : stepB H i o (r.A i) (r.V i) (r.S' i) (r.eff i) (H.tch i) = true
  gd : gdB (r.g i) (r.A i).n = true
  next : r.A (i + 1) = nextOf o.dst (H.tch i) (r.A i) (r.S' i)

theorem rec_at (h : build E ops.toList H ops.toList 0 S0 = .ok (rs, Z)) : rs.length = ops.size ∧ (rgOf H rs Z).A 0 = S0 ∧ (rgOf H rs Z).A rs.length = Z ∧ ∀ i o, ops[i]? = some o → RecAt E ops H (rgOf H rs Z) i o := by
  obtain ⟨h1, h2, h3⟩ := build_ok h
  refine ⟨by simpa using h1, h2, ?_, fun i o ho => ?_⟩
  · simp [rgOf]
  · obtain ⟨rc, r1, r2, r3, r4, r5⟩ := h3 i o (by simpa using ho)
    rw [Nat.zero_add] at r2 r3 r4 r5
    have eA : (rgOf H rs Z).A i = rc.A := by simp [rgOf, r1]
    have eV : (rgOf H rs Z).V i = rc.V := by simp [rgOf, r1]
    have eS : (rgOf H rs Z).S' i = rc.S' := by simp [rgOf, r1]
    have eg : (rgOf H rs Z).g i = rc.g := by simp [rgOf, r1]
    have ee : (rgOf H rs Z).eff i = rc.eff := by simp [rgOf, r1]
    refine ⟨?_, ?_, ?_, ?_, ?_⟩
    · rw [eV, eA]; exact r2
    · rw [eV, eS, eg, ee]; exact r3
    · rw [eA, eV, eS, ee]; exact r4.1
    · rw [eg, eA]; exact r4.2
    · rw [eA, eS]; exact r5

/-- What a step's check says. -/
structure StepD (H : Hint) (i : Nat) (o : Oper) (A V S' : SS) (eff : Eff) (tch : List Nat) : Prop where
  dst : o.dst = H.dst i
  tch : tch = H.tch i
  edge : ∀ e, e ∈ o.after → Region.binds .any e = true → e.on < i
  bef : ∀ j, j < i → H.bef i j = true → ∃ e, e ∈ o.after ∧ Region.binds .any e = true ∧ (j = e.on ∨ H.bef e.on j = true)
  n : S'.n = A.n + effLen eff
  slen : S'.slots.length = A.slots.length
  dlt : ∀ d, o.dst = some d → d < A.slots.length
  hlen : A.heap.length = H.len i
  hgrow : A.heap.length ≤ S'.heap.length
  hlen' : S'.heap.length = H.len (i + 1)
  tl : ∀ β, β ∈ H.tch i → live V.heap β ∧ ∀ sb, S'.heap[β]? = some sb → refsSB (H.p i) sb = true
  pair : ∀ j, j < i → H.bef i j = true ∨ ((H.dst i = none ∨ H.dst i ≠ H.dst j) ∧ ∀ β, β ∈ H.tch i → H.wrB j β = false)
  refS : ∀ d s, o.dst = some d → S'.slots[d]? = some s → refsSV (H.p i) s = true
  refN : ∀ sb, sb ∈ S'.heap.drop A.heap.length → refsSB (H.p i) sb = true

theorem stepB_ok {i : Nat} {o : Oper} {A V S' : SS} {eff : Eff} {tch : List Nat} (h : stepB H i o A V S' eff tch = true) : StepD H i o A V S' eff tch := by
  unfold stepB at h
  simp only [Bool.and_eq_true] at h
  obtain ⟨⟨⟨⟨⟨⟨⟨⟨⟨⟨⟨⟨⟨c1, c2⟩, c3⟩, c4⟩, c5⟩, c6⟩, c7⟩, c8⟩, c8'⟩, c9⟩, c10⟩, c11⟩, c12⟩, c13⟩ := h
  refine ⟨by simpa using c1, by simpa using c2, fun e he hb => ?_, fun j hj hb => ?_, by simpa using c5, by simpa using c6, fun d hd => ?_, by simpa using c8, by simpa using c8', by simpa using c9, fun β hβ => ?_, fun j hj => ?_, fun d s hd hs => ?_, fun sb hsb => ?_⟩
  · have := List.all_eq_true.1 c3 e (by simpa using he)
    simpa [hb] using this
  · have := List.all_eq_true.1 c4 j (List.mem_range.2 hj)
    simp only [hb, Bool.not_true, Bool.false_or, List.any_eq_true, Bool.and_eq_true, Bool.or_eq_true, beq_iff_eq] at this
    obtain ⟨e, h1, h2, h3⟩ := this
    exact ⟨e, by simpa using h1, h2, h3⟩
  · rw [hd] at c7; simpa using c7
  · have c := List.all_eq_true.1 c10 β hβ
    simp only [Bool.and_eq_true] at c
    refine ⟨liveB_iff.1 c.1, fun sb hs => ?_⟩
    have := c.2
    rw [hs] at this
    exact this
  · have := List.all_eq_true.1 c11 j (List.mem_range.2 hj)
    simp only [Bool.or_eq_true, Bool.and_eq_true, beq_iff_eq, bne_iff_ne, ne_eq] at this
    rcases this with h1 | ⟨h1, h2⟩
    · exact .inl h1
    · refine .inr ⟨h1, fun β hβ => ?_⟩
      have := List.all_eq_true.1 h2 β hβ
      simpa using this
  · rw [hd] at c12
    simp only [hs] at c12
    exact c12
  · exact List.all_eq_true.1 c13 sb hsb

theorem rg_ok (h : build E ops.toList H ops.toList 0 S0 = .ok (rs, Z)) (hn : H.N = ops.size) : (rgOf H rs Z).Ok E ops := by
  obtain ⟨hlen, hA0, hAN, hrec⟩ := rec_at h
  generalize hr : rgOf H rs Z = r at *
  have hN : r.N = ops.size := by rw [← hr]; exact hlen
  have hdst : r.dst = H.dst := by rw [← hr]; rfl
  have htch : r.tch = H.tch := by rw [← hr]; rfl
  have hbef : r.bef = H.bef := by rw [← hr]; rfl
  have at' : ∀ i, i < r.N → ∃ o, ops[i]? = some o ∧ RecAt E ops H r i o ∧ StepD H i o (r.A i) (r.V i) (r.S' i) (r.eff i) (H.tch i) := by
    intro i hi
    have : i < ops.size := by rw [← hN]; exact hi
    have ho : ops[i]? = some ops[i] := by simp [this]
    exact ⟨_, ho, hrec i _ ho, stepB_ok (hrec i _ ho).step⟩
  have hvh : ∀ i, i < r.N → (r.V i).heap.length = (r.A i).heap.length := by
    intro i hi
    obtain ⟨o, _, hR, _⟩ := at' i hi
    rw [hR.view]
    simp [viewOf, maskB]
  have hgrow : ∀ i, i < r.N → (r.A i).heap.length ≤ (r.S' i).heap.length := by
    intro i hi
    obtain ⟨o, _, hR, hS⟩ := at' i hi
    exact hS.hgrow
  have hlenS : ∀ i, i < r.N → r.len (i + 1) = (r.S' i).heap.length := by
    intro i hi
    obtain ⟨o, _, hR, hS⟩ := at' i hi
    have := hgrow i hi
    unfold Rg.len
    rw [hR.next]
    simp only [nextOf, List.length_append, List.length_drop, overB_length]
    omega
  have hlenI : ∀ i, i < r.N → r.len i = H.len i := fun i hi => (at' i hi).elim fun o h => h.2.2.hlen
  have hlenI' : ∀ i, i < r.N → r.len (i + 1) = H.len (i + 1) := fun i hi => by
    obtain ⟨o, _, _, hS⟩ := at' i hi
    rw [hlenS i hi, hS.hlen']
  have hwrB : ∀ i β, i < r.N → r.wrB i β = H.wrB i β := by
    intro i β hi
    simp only [Rg.wrB, Hint.wrB, htch, hlenI i hi, hlenI' i hi]
  have hun : ∀ i j, r.un i j = H.un i j := by intro i j; simp only [Rg.un, Hint.un, hbef]
  have hp : ∀ i, r.p i = H.p i := by
    intro i
    funext β
    simp only [Rg.p, Hint.p]
    rw [hn, ← hN]
    rw [Bool.eq_iff_iff, List.all_eq_true, List.all_eq_true]
    constructor
    · intro hh j hj
      have := hh j hj
      have hj' := List.mem_range.1 hj
      rw [hun, hlenI j hj', hlenI' j hj'] at this
      exact this
    · intro hh j hj
      have := hh j hj
      have hj' := List.mem_range.1 hj
      rw [hun, hlenI j hj', hlenI' j hj']
      exact this
  have hlmono : ∀ i j, i ≤ j → j ≤ r.N → r.len i ≤ r.len j := by
    intro i j hij
    induction j with
    | zero => intro _; rw [Nat.le_zero.1 hij]; exact Nat.le_refl _
    | succ j ih =>
      intro hj
      rcases Nat.lt_or_eq_of_le hij with hlt | rfl
      · refine Nat.le_trans (ih (Nat.le_of_lt_succ hlt) (Nat.le_of_lt hj)) ?_
        rw [hlenS j hj]
        exact hgrow j hj
      · exact Nat.le_refl _
  refine
    { size := hN.symm
      op := fun i o ho => ?_
      edgeLt := fun i o e ho he hb => (stepB_ok (hrec i o ho).step).edge e he hb
      befE := fun i o j ho hb => ?_
      vn := fun i hi => ?_
      vslen := fun i hi => ?_
      vslot := fun i hi k s hs => ?_
      vhlen := hvh
      vblk := fun i hi β sb hs => ?_
      an := fun i hi => ?_
      anMono := fun i hi => ?_
      aslen := fun i hi => ?_
      aslot := fun i hi k => ?_
      alen := hlenS
      ablk := fun i hi β => ?_
      lenS := fun i hi => by rw [hlenS i hi]; exact hgrow i hi
      tlive := fun i hi β ht => ?_
      cS := fun i j k hij hj h1 h2 => ?_
      cB := fun i j β hij hj h1 h2 => ?_
      refS := fun i hi k s hd hs => ?_
      refB := fun i hi β sb hw hs => ?_ }
  · have hS := stepB_ok (hrec i o ho).step
    exact ⟨by rw [htch]; exact (hrec i o ho).sop, by rw [hdst]; exact hS.dst⟩
  · rw [hbef] at hb ⊢
    have hj : j < i := by
      simp only [Hint.bef, Bool.and_eq_true, decide_eq_true_eq] at hb
      exact hb.1
    exact (stepB_ok (hrec i o ho).step).bef j hj hb
  · obtain ⟨o, _, hR, _⟩ := at' i hi
    rw [hR.view]; rfl
  · obtain ⟨o, _, hR, _⟩ := at' i hi
    rw [hR.view]; exact maskS_length _ _
  · obtain ⟨o, _, hR, _⟩ := at' i hi
    rw [hR.view] at hs
    rcases maskS_get _ _ k s hs with h1 | ⟨h1, h2⟩
    · exact .inl h1
    · refine .inr ⟨h1, fun j hj hu hd => h2 ?_⟩
      simp only [Hint.badS, List.mem_filterMap, List.mem_range]
      refine ⟨j, by rw [hn, ← hN]; exact hj, ?_⟩
      rw [← hun, hu, ← hdst, hd]
      rfl
  · obtain ⟨o, _, hR, _⟩ := at' i hi
    rw [hR.view] at hs
    have hs' : (maskB (fun β => (List.range H.N).any fun j => H.un i j && H.wrB j β) (r.A i).heap)[β]? = some sb := hs
    rcases maskB_get hs' with h1 | ⟨h1, h2⟩
    · exact .inl h1
    · refine .inr ⟨h1, fun j hj hu => ?_⟩
      rw [List.any_eq_false] at h2
      have := h2 j (List.mem_range.2 (by rw [hn, ← hN]; exact hj))
      rw [← hun, hu, Bool.true_and, ← hwrB j β hj] at this
      simpa using this
  · obtain ⟨o, _, hR, _⟩ := at' i hi
    show (r.A (i + 1)).n = _
    rw [hR.next]; rfl
  · obtain ⟨o, _, hR, hS⟩ := at' i hi
    show (r.A i).n ≤ (r.A (i + 1)).n
    rw [hR.next]
    show _ ≤ (r.S' i).n
    rw [hS.n]
    exact Nat.le_add_right _ _
  · obtain ⟨o, _, hR, _⟩ := at' i hi
    rw [hR.next]
    simp only [nextOf]
    split <;> simp
  · obtain ⟨o, _, hR, hS⟩ := at' i hi
    rw [hR.next, hdst, ← hS.dst]
    simp only [nextOf]
    cases hd : o.dst with
    | none => simp
    | some d =>
      have hlt := hS.dlt d hd
      simp only [Option.some.injEq]
      split
      · rename_i he
        subst he
        rw [List.getElem?_set_self hlt]
        have : d < (r.S' i).slots.length := by rw [hS.slen]; exact hlt
        simp [List.getD_eq_getElem?_getD, this]
      · rename_i he
        rw [List.getElem?_set_ne he]
  · obtain ⟨o, _, hR, hS⟩ := at' i hi
    have hg := hgrow i hi
    rw [hR.next]
    simp only [nextOf]
    have hlA : r.len i = (r.A i).heap.length := rfl
    rcases Nat.lt_or_ge β (r.A i).heap.length with hlt | hge
    · rw [List.getElem?_append_left (by rw [overB_length]; exact hlt)]
      obtain ⟨g1, g2, _⟩ := overB_get (S' := r.S' i) (tch := H.tch i) (h := (r.A i).heap) (β := β) (by omega) hlt
      by_cases hm : β ∈ H.tch i
      · rw [g1 hm, if_pos (by simp [Rg.wrB, htch, hm])]
      · rw [g2 hm, if_neg]
        simp only [Rg.wrB, htch, Bool.or_eq_true, List.contains_iff_mem, Bool.and_eq_true, decide_eq_true_eq, not_or, not_and, Nat.not_lt]
        exact ⟨hm, fun h1 => by rw [hlA] at h1; omega⟩
    · rw [List.getElem?_append_right (by rw [overB_length]; exact hge), overB_length, List.getElem?_drop, show (r.A i).heap.length + (β - (r.A i).heap.length) = β from by omega]
      split
      · rfl
      · rename_i hw
        simp only [Rg.wrB, htch, Bool.or_eq_true, List.contains_iff_mem, Bool.and_eq_true, decide_eq_true_eq, not_or, not_and, Nat.not_lt] at hw
        have := hw.2 (by rw [hlA]; exact hge)
        rw [hlenS i hi] at this
        rw [List.getElem?_eq_none this, List.getElem?_eq_none hge]
  · obtain ⟨o, _, hR, hS⟩ := at' i hi
    rw [htch] at ht
    exact (hS.tl β ht).1
  · obtain ⟨o, _, hR, hS⟩ := at' j hj
    rw [hbef]
    rw [hdst] at h1 h2
    rcases hS.pair i hij with h3 | ⟨h3, _⟩
    · exact h3
    · rcases h3 with h3 | h3
      · rw [h3] at h2; cases h2
      · exact absurd (h2.trans h1.symm) h3
  · obtain ⟨o, _, hR, hS⟩ := at' j hj
    have hi : i < r.N := Nat.lt_trans hij hj
    rw [hbef]
    rcases hS.pair i hij with h3 | ⟨_, h3⟩
    · exact h3
    · exfalso
      have hw2 : β ∈ H.tch j ∨ (r.len j ≤ β ∧ β < r.len (j + 1)) := by simpa [Rg.wrB, htch] using h2
      rcases hw2 with ht | ⟨h4, h5⟩
      · have := h3 β ht
        rw [← hwrB i β hi, h1] at this
        cases this
      · have hw1 : β ∈ H.tch i ∨ (r.len i ≤ β ∧ β < r.len (i + 1)) := by simpa [Rg.wrB, htch] using h1
        have hm := hlmono (i + 1) j hij (Nat.le_of_lt hj)
        rcases hw1 with ht | ⟨h6, h7⟩
        · obtain ⟨oi, _, hRi, hSi⟩ := at' i hi
          have hl : β < (r.A i).heap.length := by rw [← hvh i hi]; exact live_lt (hSi.tl β ht).1
          have hm2 := hlmono i j (Nat.le_of_lt hij) (Nat.le_of_lt hj)
          have : r.len i = (r.A i).heap.length := rfl
          omega
        · omega
  · obtain ⟨o, _, hR, hS⟩ := at' i hi
    rw [hp]
    exact hS.refS k s (by rw [hS.dst, ← hdst]; exact hd) hs
  · obtain ⟨o, _, hR, hS⟩ := at' i hi
    rw [hp]
    have hw1 : β ∈ H.tch i ∨ (r.len i ≤ β ∧ β < r.len (i + 1)) := by simpa [Rg.wrB, htch] using hw
    rcases hw1 with ht | ⟨h6, h7⟩
    · exact (hS.tl β ht).2 sb hs
    · refine hS.refN sb ?_
      refine List.mem_of_getElem? (i := β - (r.A i).heap.length) ?_
      rw [List.getElem?_drop]
      have : r.len i = (r.A i).heap.length := rfl
      rw [show (r.A i).heap.length + (β - (r.A i).heap.length) = β from by omega]
      exact hs

end
end Vs
