/-
  Regions whose order is open: one step, and all of them.
-/
import Derived.Test.YtfpmhmngebnphaaNd2
namespace Vs
open Go Go.RowKit

section
variable {r : Rg} {E : Env} {ops : Array Oper} {X : Nat → Prop} {M : Hand} {w0 w w' : World} {L : Nat → Bool} {μ μ' : Mu} {ρN : List D} {a a' : Act}

/-- One more operation. -/
def addL (L : Nat → Bool) (i : Nat) (j : Nat) : Bool := j == i || L j

theorem addL_ne {i j : Nat} (h : j ≠ i) : addL L i j = L j := by simp [addL, h]
theorem addL_self {i : Nat} : addL L i i = true := by simp [addL]

theorem Down.add (hD : Down r L) {i : Nat} (hrd : ∀ j, r.bef i j = true → L j = true) : Down r (addL L i) where
  bef := by
    intro j k hj hL hb
    by_cases he : j = i
    · subst he
      have := hrd k hb
      simp [addL, this]
    · rw [addL_ne he] at hL
      have := hD.bef j k hj hL hb
      simp [addL, this]

theorem Down.later (hD : Down r L) {i j : Nat} (hni : L i = false) (hj : j < r.N) (hb : r.bef j i = true) : L j = false := by
  cases hL : L j with
  | false => rfl
  | true => rw [hD.bef j i hj hL hb] at hni; cases hni

theorem Rg.Ok.lvS_add (h : r.Ok E ops) (hD : Down r L) {i : Nat} (hi : i < r.N) (hni : L i = false) (k : Nat) : r.lvS (addL L i) k = if r.dst i = some k then i + 1 else r.lvS L k := by
  unfold Rg.lvS
  split
  · rename_i hd
    refine lastLv_at hi (by simp [addL, hd]) fun j h1 h2 => ?_
    rw [addL_ne (by omega)]
    cases hdj : (r.dst j == some k) with
    | false => simp
    | true =>
      have := hD.later hni h2 (h.cS i j k h1 h2 hd (by simpa using hdj))
      simp [this]
  · rename_i hd
    refine lastLv_congr fun j _ => ?_
    by_cases he : j = i
    · subst he
      have : (r.dst j == some k) = false := by simpa using hd
      simp [this]
    · rw [addL_ne he]

theorem Rg.Ok.lvB_add (h : r.Ok E ops) (hD : Down r L) {i : Nat} (hi : i < r.N) (hni : L i = false) (β : Nat) : r.lvB (addL L i) β = if r.wrB i β = true then i + 1 else r.lvB L β := by
  unfold Rg.lvB
  split
  · rename_i hd
    refine lastLv_at hi (by simp [addL, hd]) fun j h1 h2 => ?_
    rw [addL_ne (by omega)]
    cases hdj : r.wrB j β with
    | false => simp
    | true =>
      have := hD.later hni h2 (h.cB i j β h1 h2 hd hdj)
      simp [this]
  · rename_i hd
    refine lastLv_congr fun j _ => ?_
    by_cases he : j = i
    · subst he
      simp [hd]
    · rw [addL_ne he]

theorem step_RL (h : r.Ok E ops) (hD : Down r L) (hR : RL r X M w0 L μ ρN a w) (hN : ρN.length = r.n r.N) {i : Nat} (hi : i < r.N) (hni : L i = false) (hrd : ∀ j, r.bef i j = true → L j = true)
    (hR' : R (exV r X L μ i) M w0 (r.S' i) μ' (ρN.take (r.n (i + 1))) a' w') (hf : Fr (r.V i) μ w a (r.dst i) (r.tch i) (r.S' i) μ' a' w') : ∃ μ2, RL r X M w0 (addL L i) μ2 ρN a' w' := by
  obtain ⟨hlv, hF, hRv⟩ := view_ok h hD hR hN hi hni hrd
  have hvl := h.vhlen i hi
  have hal := h.alen i hi
  have hls := h.lenStep hi
  have mv := hf.move
  have hnw : ∀ {β}, r.wrB i β = false → ¬ (r.len i ≤ β ∧ β < r.len (i + 1)) ∧ β ∉ r.tch i := by
    intro β hb
    simp only [Rg.wrB, Bool.or_eq_false_iff, Bool.and_eq_false_iff, decide_eq_false_iff_not, List.contains_eq_mem] at hb
    exact ⟨by omega, hb.1⟩
  have hwr : ∀ {β}, r.wrB i β = true → β ∈ r.tch i ∨ (r.len i ≤ β ∧ β < r.len (i + 1)) := by
    intro β hb
    simpa [Rg.wrB] using hb
  generalize hμ2 : (fun β => if r.wrB i β = true then μ' β else μ β : Mu) = μ2
  have hout : ∀ {β}, r.wrB i β = false → μ2 β = μ β := by
    intro β hb
    rw [← hμ2]
    show (if _ then _ else _) = _
    rw [if_neg (by simp [hb])]
  have hw2 : ∀ {β}, r.wrB i β = true → μ2 β = μ' β := by
    intro β hb
    rw [← hμ2]
    show (if _ then _ else _) = _
    rw [if_pos hb]
  have hin : ∀ {β}, β < r.len (i + 1) → μ2 β = μ' β := by
    intro β hb
    cases hw : r.wrB i β with
    | true => exact hw2 hw
    | false =>
      obtain ⟨h1, h2⟩ := hnw hw
      rw [hout hw, (mv.same β (by rw [hvl]; omega) h2).2]
  have hext : ∀ {β}, ¬ (r.len i ≤ β ∧ β < r.len (i + 1)) → (μ2 β).v = (μ β).v ∧ ∃ ext, (μ2 β).hist = (μ β).hist ++ ext := by
    intro β hb
    cases hw : r.wrB i β with
    | true =>
      rw [hw2 hw]
      rcases hwr hw with h1 | h1
      · exact mv.mu β (live_lt (h.tlive i hi β h1))
      · exact absurd h1 hb
    | false => rw [hout hw]; exact ⟨rfl, [], by simp⟩
  have hheap : ∀ {β}, r.wrB i β = true → (r.A (r.lvB (addL L i) β)).heap[β]? = (r.S' i).heap[β]? := by
    intro β hb
    rw [h.lvB_add hD hi hni, if_pos hb, h.ablk i hi, if_pos hb]
  have hheap' : ∀ {β}, r.wrB i β = false → r.lvB (addL L i) β = r.lvB L β := by
    intro β hb
    rw [h.lvB_add hD hi hni, if_neg (by simp [hb])]
  -- live blocks: old ones and new ones
  have hcase : ∀ {β}, r.liveL (addL L i) β → (r.liveL L β ∧ μ2 β = μ β ∧ r.wrB i β = false) ∨ (r.wrB i β = true ∧ live (r.S' i).heap β ∧ μ2 β = μ' β ∧ ∀ b, (μ2 β).own b → w.heap.size ≤ b ∨ ∃ γ, γ ∈ r.tch i ∧ (μ γ).own b) := by
    intro β hl
    cases hb : r.wrB i β with
    | true =>
      have hlS : live (r.S' i).heap β := by
        obtain ⟨sb, hs, hd⟩ := hl
        rw [hheap hb] at hs
        exact ⟨sb, hs, hd⟩
      refine .inr ⟨rfl, hlS, hw2 hb, fun b hbb => ?_⟩
      rw [hw2 hb] at hbb
      refine mv.own β hlS ?_ b hbb
      rcases hwr hb with h1 | h1
      · exact .inl h1
      · exact .inr (by rw [hvl]; exact h1.1)
    | false =>
      refine .inl ⟨?_, hout hb, rfl⟩
      obtain ⟨sb, hs, hd⟩ := hl
      rw [hheap' hb] at hs
      exact ⟨sb, hs, hd⟩
  have hblk : ∀ b, r.FL X L μ w b → w'.heap[b]? = w.heap[b]? := fun b hb => mv.blk b hb.1.1 fun β ht => hb.2 β (hlv β (h.tlive i hi β ht))
  have hst : Stays (r.FL X L μ w) (r.FL X (addL L i) μ2 w') w w' := by
    refine ⟨fun b hb => ⟨⟨Nat.lt_of_lt_of_le hb.1.1 mv.size, hb.1.2⟩, fun β hl he => ?_⟩, hblk⟩
    rcases hcase hl with ⟨h1, h2, _⟩ | ⟨_, _, _, h3⟩
    · rw [h2] at he; exact hb.2 β h1 he
    · rcases h3 b he with h4 | ⟨γ, h4, h5⟩
      · have := hb.1.1
        omega
      · exact hb.2 γ (hlv γ (h.tlive i hi γ h4)) h5
  have hF2 : ∀ b, Fz (exV r X L μ i) (r.S' i).heap μ' w' b → r.FL X (addL L i) μ2 w' b := by
    rintro b ⟨⟨h1, h2⟩, h3⟩
    refine ⟨⟨h1, fun hx => h2 (.inl hx)⟩, fun β hl he => ?_⟩
    cases hb : r.wrB i β with
    | true =>
      have hlS : live (r.S' i).heap β := by
        obtain ⟨sb, hs, hd⟩ := hl
        rw [hheap hb] at hs
        exact ⟨sb, hs, hd⟩
      rw [hw2 hb] at he
      exact h3 β hlS he
    | false =>
      have hlL : r.liveL L β := by
        obtain ⟨sb, hs, hd⟩ := hl
        rw [hheap' hb] at hs
        exact ⟨sb, hs, hd⟩
      rw [hout hb] at he
      by_cases hv : live (r.V i).heap β
      · have hlt : β < (r.V i).heap.length := live_lt hv
        have hlS : live (r.S' i).heap β := by
          obtain ⟨sb, hs, hd⟩ := hv
          exact ⟨sb, by rw [(mv.same β hlt (hnw hb).2).1]; exact hs, hd⟩
        refine h3 β hlS ?_
        rw [(mv.same β hlt (hnw hb).2).2]
        exact he
      · exact h2 (.inr ⟨β, hlL, hv, he⟩)
  have hgN : Grows (Fz (exV r X L μ i) (r.S' i).heap μ' w') (r.FL X (addL L i) μ2 w') (r.S' i).heap.length (r.len (i + 1)) μ' μ2 (ρN.take (r.n (i + 1))) (ρN.take (r.n (i + 1))) w' w' :=
    ⟨⟨hF2, fun _ _ => rfl⟩, ⟨[], by simp⟩, by rw [hal]; exact Nat.le_refl _, fun β hb => by rw [hin (by rw [hal]; exact hb)]; exact ⟨rfl, [], by simp⟩⟩
  -- what an older level names is not new
  have hp : ∀ {j}, L j = true → j < r.N → MuUp (r.p j) (r.len (j + 1)) μ μ2 := by
    intro j hL hj β hpj hlt
    refine hext fun hrange => ?_
    have hne : j ≠ i := fun e => by rw [e, hni] at hL; cases hL
    have hji : i < j := by
      rcases Nat.lt_or_ge i j with h1 | h1
      · exact h1
      · have := h.lenMono (i := j + 1) (j := i) (by omega) (Nat.le_of_lt hi)
        omega
    have hb1 : r.bef j i = false := by
      cases hb : r.bef j i with
      | false => rfl
      | true => rw [hD.later hni hj hb] at hL; cases hL
    have hb2 : r.bef i j = false := by
      cases hb : r.bef i j with
      | false => rfl
      | true => have := h.befLt i hi j hb; omega
    have := List.all_eq_true.1 hpj i (List.mem_range.2 hi)
    have hu : r.un j i = true := by simp [Rg.un, hb1, hb2]; omega
    simp [hu, hrange.1, hrange.2] at this
  have hgO : ∀ (l : Nat), Grows (r.FL X L μ w) (r.FL X (addL L i) μ2 w') (r.len l) (r.len l) μ2 μ2 (ρN.take (r.n l)) (ρN.take (r.n l)) w w' := fun l => ⟨hst, ⟨[], by simp⟩, Nat.le_refl _, fun _ _ => ⟨rfl, [], by simp⟩⟩
  refine ⟨μ2, hR'.keeps, ?_, hR'.defers, fun k s hs => ?_, fun β sb hs => ?_, fun b hb => Nat.lt_of_lt_of_le (hR.ex b hb) mv.size, fun β γ h1 h2 hne b hb => ?_, fun β h1 b hb => ?_, fun β v hv => ⟨(hR.anc β v hv).1, (hext (by have := (hR.anc β v hv).1; have := h.lenMono (Nat.zero_le i) (Nat.le_of_lt hi); omega)).1.trans (hR.anc β v hv).2⟩⟩
  · obtain ⟨u, rfl⟩ := hf.act
    rw [← hR.size]
    unfold Act.put
    cases r.dst i <;> simp
  · rw [h.lvS_add hD hi hni] at hs ⊢
    split at hs
    · rename_i hd
      rw [if_pos hd]
      rw [h.aslot i hi, if_pos hd] at hs
      exact (hR'.slots k s hs).mono hgN
    · rename_i hd
      rw [if_neg hd]
      have hold := hR.slots k s hs
      obtain ⟨u, rfl⟩ := hf.act
      rw [tmps_put, if_neg (fun e => hd e.1)]
      have h2 : SVR w (r.FL X L μ w) (r.len (r.lvS L k)) μ2 (ρN.take (r.n (r.lvS L k))) s (a.tmps.getD k Go.undef) := by
        rcases lastLv_spec (f := fun i => L i && r.dst i == some k) (N := r.N) with h0 | ⟨j, hj, he, hfj⟩
        · have h0' : r.lvS L k = 0 := h0
          rw [h0'] at hold ⊢
          refine hold.mono ⟨⟨fun _ h => h, fun _ _ => rfl⟩, ⟨[], by simp⟩, Nat.le_refl _, fun β hb => hext ?_⟩
          have := h.lenMono (Nat.zero_le i) (Nat.le_of_lt hi)
          omega
        · have he' : r.lvS L k = j + 1 := he
          simp only [Bool.and_eq_true, beq_iff_eq] at hfj
          rw [he'] at hold hs ⊢
          rw [h.aslot j hj, if_pos hfj.2] at hs
          exact refsSV_ok (hp hfj.1 hj) (h.refS j hj k s hfj.2 hs) hold
      exact h2.mono (hgO _)
  · rw [h.lvB_add hD hi hni] at hs ⊢
    split at hs
    · rename_i hb
      rw [if_pos hb]
      rw [h.ablk i hi, if_pos hb] at hs
      rw [hw2 hb]
      exact (hR'.blocks β sb hs).grow hgN (Nat.le_refl _) (fun _ _ => rfl)
    · rename_i hb
      have hb' : r.wrB i β = false := by simpa using hb
      rw [if_neg hb, hout hb']
      by_cases hd : sb = .dead
      · subst hd; trivial
      · have hold := hR.blocks β sb hs
        have hlL : r.liveL L β := ⟨sb, hs, hd⟩
        have h2 : BlkR (fun b => w0.heap.size ≤ b ∨ M b) w (r.FL X L μ w) (r.len (r.lvB L β)) μ2 (ρN.take (r.n (r.lvB L β))) sb (μ β) := by
          rcases lastLv_spec (f := fun i => L i && r.wrB i β) (N := r.N) with h0 | ⟨j, hj, he, hfj⟩
          · have h0' : r.lvB L β = 0 := h0
            rw [h0'] at hold ⊢
            refine hold.grow ⟨⟨fun _ h => h, fun _ _ => rfl⟩, ⟨[], by simp⟩, Nat.le_refl _, fun γ hγ => hext ?_⟩ (Nat.le_refl _) (fun _ _ => rfl)
            have := h.lenMono (Nat.zero_le i) (Nat.le_of_lt hi)
            omega
          · have he' : r.lvB L β = j + 1 := he
            simp only [Bool.and_eq_true] at hfj
            rw [he'] at hold hs ⊢
            rw [h.ablk j hj, if_pos hfj.2] at hs
            exact refsSB_ok (hp hfj.1 hj) (h.refB j hj β sb hfj.2 hs) hold
        refine h2.grow (hgO _) mv.size fun b hbb => mv.blk b (hR.own_lt hlL hbb) fun γ ht he => ?_
        exact hR.inj β γ hlL (hlv γ (h.tlive i hi γ ht)) (fun e => (hnw hb').2 (by rw [e]; exact ht)) b hbb he
  · rcases hcase h1 with ⟨l1, e1, n1⟩ | ⟨n1, l1, e1, f1⟩
    · rcases hcase h2 with ⟨l2, e2, n2⟩ | ⟨n2, l2, e2, f2⟩
      · rw [e1] at hb; rw [e2]; exact hR.inj β γ l1 l2 hne b hb
      · intro he
        rw [e1] at hb
        rcases f2 b he with h4 | ⟨δ, h4, h5⟩
        · have := hR.own_lt l1 hb
          omega
        · exact hR.inj β δ l1 (hlv δ (h.tlive i hi δ h4)) (fun e => (hnw n1).2 (by rw [e]; exact h4)) b hb h5
    · rcases hcase h2 with ⟨l2, e2, n2⟩ | ⟨n2, l2, e2, f2⟩
      · intro he
        rw [e2] at he
        rcases f1 b hb with h4 | ⟨δ, h4, h5⟩
        · have := hR.own_lt l2 he
          omega
        · exact hR.inj γ δ l2 (hlv δ (h.tlive i hi δ h4)) (fun e => (hnw n2).2 (by rw [e]; exact h4)) b he h5
      · rw [e1] at hb; rw [e2]; exact hR'.inj β γ l1 l2 hne b hb
  · rcases hcase h1 with ⟨l1, e1, _⟩ | ⟨_, l1, e1, _⟩
    · rw [e1] at hb; exact hR.exo β l1 b hb
    · rw [e1] at hb; exact fun hx => hR'.exo β l1 b hb (.inl hx)

end
end Vs
