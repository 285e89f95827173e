/-
  Regions whose order is open: all orders.
-/
import Derived.Test.YtfpmhmngebnphaaNd3
namespace Vs
open Go Go.RowKit

/-- How many operations have not run. -/
def miss (L : Nat → Bool) : Nat → Nat
  | 0 => 0
  | i + 1 => (if L i then 0 else 1) + miss L i

theorem miss_zero {L : Nat → Bool} : ∀ {N : Nat}, miss L N = 0 → ∀ i, i < N → L i = true
  | 0, _, i, hi => absurd hi (Nat.not_lt_zero i)
  | N + 1, h, i, hi => by
    unfold miss at h
    rcases Nat.lt_or_eq_of_le (Nat.le_of_lt_succ hi) with hlt | rfl
    · exact miss_zero (by omega) i hlt
    · cases hL : L i with
      | true => rfl
      | false => rw [hL] at h; simp at h

theorem miss_congr {L L' : Nat → Bool} : ∀ {N : Nat}, (∀ j, j < N → L j = L' j) → miss L N = miss L' N
  | 0, _ => rfl
  | N + 1, h => by unfold miss; rw [h N (Nat.lt_succ_self N), miss_congr fun j hj => h j (Nat.lt_succ_of_lt hj)]

theorem miss_add {L : Nat → Bool} {i : Nat} (hni : L i = false) : ∀ {N : Nat}, i < N → miss (addL L i) N + 1 = miss L N
  | 0, hi => absurd hi (Nat.not_lt_zero i)
  | N + 1, hi => by
    unfold miss
    rcases Nat.lt_or_eq_of_le (Nat.le_of_lt_succ hi) with hlt | rfl
    · have := miss_add hni hlt
      rw [addL_ne (by omega : N ≠ i)]
      omega
    · rw [addL_self, hni]
      rw [miss_congr (L := addL L i) (L' := L) fun j hj => addL_ne (by omega)]
      simp
      omega

theorem miss_le (L : Nat → Bool) : ∀ N, miss L N ≤ N
  | 0 => Nat.le_refl _
  | N + 1 => by
    unfold miss
    have := miss_le L N
    split <;> omega

section
variable {r : Rg} {E : Env} {ops : Array Oper} {X : Nat → Prop} {M : Hand} {w0 w : World} {L : Nat → Bool} {μ : Mu} {ρN : List D} {a : Act} {G : Nat → List D → Option (List D)}

/-- The environment of the order of the text. -/
def Chain (G : Nat → List D → Option (List D)) (r : Rg) (ρN : List D) : Prop :=
  ρN.length = r.n r.N ∧ ∀ i, i < r.N → ((r.g i).ok (ρN.take (r.n i)) = true → effRun G (ρN.take (r.n i)) (r.eff i) = some (ρN.take (r.n (i + 1)))) ∧
    ((r.g i).ok (ρN.take (r.n i)) = false → ρN.take (r.n (i + 1)) = ρN.take (r.n i) ++ List.replicate (effLen (r.eff i)) .undef)

theorem RL_all (h : r.Ok E ops) (hR : RL r X M w0 L μ ρN a w) (hN : ρN.length = r.n r.N) (hL : ∀ i, i < r.N → L i = true) : R X M w0 (r.A r.N) μ ρN a w := by
  have hS : ∀ k, r.lvS L k ≤ r.N ∧ (r.A (r.lvS L k)).slots[k]? = (r.A r.N).slots[k]? := by
    intro k
    refine ⟨lastLv_le _ _, lastLv_val (v := fun i => (r.A i).slots[k]?) fun j hj hf => ?_⟩
    rw [hL j hj, Bool.true_and] at hf
    show (r.A (j + 1)).slots[k]? = _
    rw [h.aslot j hj, if_neg (by simpa using hf)]
  have hB : ∀ β, r.lvB L β ≤ r.N ∧ (r.A (r.lvB L β)).heap[β]? = (r.A r.N).heap[β]? := by
    intro β
    refine ⟨lastLv_le _ _, lastLv_val (v := fun i => (r.A i).heap[β]?) fun j hj hf => ?_⟩
    rw [hL j hj, Bool.true_and] at hf
    show (r.A (j + 1)).heap[β]? = _
    rw [h.ablk j hj, if_neg (by simp [hf])]
  have hlv : ∀ β, r.liveL L β ↔ live (r.A r.N).heap β := by
    intro β
    unfold Rg.liveL live
    rw [(hB β).2]
  have hF : r.FL X L μ w = Fz X (r.A r.N).heap μ w := by
    funext b
    simp only [Rg.FL, Fz, hlv]
  have hgr : ∀ {l : Nat}, l ≤ r.N → Grows (r.FL X L μ w) (Fz X (r.A r.N).heap μ w) (r.len l) (r.A r.N).heap.length μ μ (ρN.take (r.n l)) ρN w w := by
    intro l hl
    rw [hF]
    exact ⟨⟨fun _ h => h, fun _ _ => rfl⟩, ⟨ρN.drop (r.n l), (List.take_append_drop _ _).symm⟩, h.lenMono hl (Nat.le_refl _), fun _ _ => ⟨rfl, [], by simp⟩⟩
  refine ⟨hR.keeps, hN, ?_, hR.defers, fun k s hs => ?_, fun β sb hs => ?_, hR.ex, fun β γ h1 h2 => hR.inj β γ ((hlv β).2 h1) ((hlv γ).2 h2), fun β h1 => hR.exo β ((hlv β).2 h1), fun β v hv => ⟨Nat.lt_of_lt_of_le (hR.anc β v hv).1 (h.lenMono (Nat.zero_le _) (Nat.le_refl _)), (hR.anc β v hv).2⟩⟩
  · rw [hR.size, h.slenMono r.N (Nat.le_refl _)]
  · exact (hR.slots k s (by rw [(hS k).2]; exact hs)).mono (hgr (hS k).1)
  · exact (hR.blocks β sb (by rw [(hB β).2]; exact hs)).grow (hgr (hB β).1) (Nat.le_refl _) (fun _ _ => rfl)

theorem RL_none (hR : R X M w0 (r.A 0) μ (ρN.take (r.n 0)) a w) (hL : ∀ i, i < r.N → L i = false) : RL r X M w0 L μ ρN a w := by
  have h0 : ∀ (f : Nat → Bool), lastLv (fun i => L i && f i) r.N = 0 := by
    intro f
    rcases lastLv_spec (f := fun i => L i && f i) (N := r.N) with h | ⟨j, hj, _, hf⟩
    · exact h
    · rw [hL j hj] at hf; cases hf
  have hS : ∀ k, r.lvS L k = 0 := fun k => h0 _
  have hB : ∀ β, r.lvB L β = 0 := fun β => h0 _
  have hF : r.FL X L μ w = Fz X (r.A 0).heap μ w := by
    funext b
    simp only [Rg.FL, Fz, Rg.liveL, hB]
  refine ⟨hR.keeps, hR.size, hR.defers, fun k s hs => ?_, fun β sb hs => ?_, hR.ex, fun β γ h1 h2 => ?_, fun β h1 => ?_, hR.anc⟩
  · rw [hS k] at hs ⊢; rw [hF]; exact hR.slots k s hs
  · rw [hB β] at hs ⊢; rw [hF]; exact hR.blocks β sb hs
  · unfold Rg.liveL at h1 h2
    rw [hB] at h1 h2
    exact hR.inj β γ h1 h2
  · unfold Rg.liveL at h1
    rw [hB] at h1
    exact hR.exo β h1

theorem any_ok (hE : EnvOk E G) (h : r.Ok E ops) (hC : Chain G r ρN) {Q : Exit → Act → World → Prop} (hQ : ∀ μ a w, R X M w0 (r.A r.N) μ ρN a w → Q .normal a w) :
    ∀ (fuel : Nat) (listed : Array Bool) (μ : Mu) (a : Act) (w : World), listed.size = r.N → Down r (fun i => listed.getD i false) → RL r X M w0 (fun i => listed.getD i false) μ ρN a w → miss (fun i => listed.getD i false) r.N ≤ fuel →
      wpAny E.P .any ops Q fuel listed a w := by
  have hready : ∀ (listed : Array Bool) i, listed.size = r.N → i ∈ Region.ready .any ops listed → i < r.N ∧ listed.getD i false = false ∧ ∀ o e, ops[i]? = some o → e ∈ o.after → Region.binds .any e = true → listed.getD e.on false = true := by
    intro listed i hs hi
    simp only [Region.ready, List.mem_filter, List.mem_range, Bool.and_eq_true, Bool.not_eq_true'] at hi
    obtain ⟨h1, h2, h3⟩ := hi
    have hiN : i < r.N := by rw [← h.size]; exact h1
    refine ⟨hiN, ?_, fun o e ho he hb => ?_⟩
    · have : i < listed.size := by rw [hs]; exact hiN
      simp [Array.getD, this] at h2 ⊢
      exact h2
    · rw [ho] at h3
      simp only [Option.map_some, Option.getD_some] at h3
      rw [Array.all_eq_true_iff_forall_mem] at h3
      have := h3 e he
      simpa [hb] using this
  have hnil : ∀ (listed : Array Bool), listed.size = r.N → Region.ready .any ops listed = [] → ∀ i, i < r.N → listed.getD i false = true := by
    intro listed hs hr i
    induction i using Nat.strongRecOn with
    | ind i ih =>
      intro hi
      cases hl : listed.getD i false with
      | true => rfl
      | false =>
        have hsz : i < ops.size := by rw [h.size]; exact hi
        have : i ∈ Region.ready .any ops listed := by
          simp only [Region.ready, List.mem_filter, List.mem_range, Bool.and_eq_true, Bool.not_eq_true']
          refine ⟨hsz, ?_, ?_⟩
          · have : i < listed.size := by rw [hs]; exact hi
            simp [Array.getD, this] at hl ⊢
            exact hl
          · rw [show ops[i]? = some ops[i] by simp [hsz]]
            simp only [Option.map_some, Option.getD_some]
            rw [Array.all_eq_true_iff_forall_mem]
            intro e he
            cases hb : Region.binds .any e with
            | false => simp
            | true =>
              have hlt := h.edgeLt i ops[i] e (by simp [hsz]) he hb
              simp [ih e.on hlt (Nat.lt_trans hlt hi)]
        rw [hr] at this
        cases this
  intro fuel
  induction fuel with
  | zero =>
    intro listed μ a w hs hD hR hm
    have hall := miss_zero (Nat.le_zero.1 hm)
    refine ⟨?_, hQ μ a w (RL_all h hR hC.1 hall)⟩
    cases hrd : Region.ready .any ops listed with
    | nil => rfl
    | cons i is =>
      obtain ⟨h1, h2, _⟩ := hready listed i hs (by rw [hrd]; exact List.mem_cons_self)
      rw [hall i h1] at h2
      cases h2
  | succ fuel ih =>
    intro listed μ a w hs hD hR hm
    refine ⟨fun hr => hQ μ a w (RL_all h hR hC.1 (hnil listed hs hr)), fun i hi => ?_⟩
    obtain ⟨hiN, hni, hed⟩ := hready listed i hs hi
    have hsz : i < ops.size := by rw [h.size]; exact hiN
    have ho : ops[i]? = some ops[i] := by simp [hsz]
    have hrd : ∀ j, r.bef i j = true → listed.getD j false = true := by
      intro j hj
      obtain ⟨e, he, hb, hor⟩ := h.befE i ops[i] j ho hj
      have he' := hed ops[i] e ho he hb
      have hlt := h.edgeLt i ops[i] e ho he hb
      rcases hor with rfl | h2
      · exact he'
      · exact hD.bef e.on j (Nat.lt_trans hlt hiN) he' h2
    obtain ⟨hsop, hdst⟩ := h.op i ops[i] ho
    obtain ⟨hlv, hF, hRv⟩ := view_ok h hD hR hC.1 hiN hni hrd
    obtain ⟨hw, hgg, hno, hyes⟩ := sop_ok hE hsop hRv
    obtain ⟨hc1, hc2⟩ := hC.2 i hiN
    have hLeq : (fun j => (listed.setIfInBounds i true).getD j false) = addL (fun j => listed.getD j false) i := by
      funext j
      by_cases he : j = i
      · subst he
        have : j < listed.size := by rw [hs]; exact hiN
        simp [addL, Array.getD, this]
      · simp only [addL]
        have hne : i ≠ j := fun e => he e.symm
        simp [Array.getD_eq_getD_getElem?, Array.getElem?_setIfInBounds_ne hne, he]
    have hgo : ∀ μ' a' w', R (exV r X (fun j => listed.getD j false) μ i) M w0 (r.S' i) μ' (ρN.take (r.n (i + 1))) a' w' → Fr (r.V i) μ w a (r.dst i) (r.tch i) (r.S' i) μ' a' w' →
        wpAny E.P .any ops Q fuel (listed.setIfInBounds i true) a' w' := by
      intro μ' a' w' hR' hf
      obtain ⟨μ2, hR2⟩ := step_RL h hD hR hC.1 hiN hni hrd hR' hf
      refine ih _ μ2 a' w' (by simp [hs]) ?_ ?_ ?_
      · rw [hLeq]; exact hD.add hrd
      · rw [hLeq]; exact hR2
      · rw [hLeq]
        have := miss_add (L := fun j => listed.getD j false) (i := i) hni hiN
        omega
    unfold wpOp
    simp only [ho]
    rw [hw]
    cases hok : (r.g i).ok (ρN.take (r.n i)) with
    | true =>
      simp only [if_true]
      refine .inl (hyes hok _ (hc1 hok) _ _ fun μ' a' w' hR' hf => ?_)
      rw [hdst] at hf
      exact hgo μ' a' w' hR' hf
    | false =>
      simp only [Bool.false_eq_true, if_false]
      obtain ⟨hh, ht, hR'⟩ := hno hok
      rw [← hc2 hok] at hR'
      rw [hdst] at hR' ⊢
      exact hgo μ _ w hR' ⟨⟨_, rfl⟩, by rw [hh, ht]; exact Move.none rfl rfl rfl rfl⟩

theorem region_any_ok (hE : EnvOk E G) (h : r.Ok E ops) (hm : E.P.follows .mixedOrders = true) (hC : Chain G r ρN) (hR : R X M w0 (r.A 0) μ (ρN.take (r.n 0)) a w) {Q : Exit → Act → World → Prop} {id : Nat}
    (hQ : ∀ μ a w, R X M w0 (r.A r.N) μ ρN a w → Q .normal a w) : (Code.region id ops true).wp E.P Q a w := by
  refine wp_region_any hm ?_
  have hL : ∀ i, (Array.replicate ops.size false).getD i false = false := by
    intro i
    simp only [Array.getD_eq_getD_getElem?]
    rw [Array.getElem?_replicate]
    split <;> rfl
  refine any_ok hE h hC hQ _ _ μ a _ (by simp [h.size]) ⟨fun i j _ hi => by rw [hL i] at hi; cases hi⟩ (RL_none (R_quiet hR (Quiet.drew w)) fun i _ => hL i) ?_
  rw [h.size]
  exact miss_le _ _

end
end Vs
