/-
  Regions whose order is open: the invariant and its step.
-/
import Derived.Test.YtfpmhmngebnphaaNd1
namespace Vs
open Go Go.RowKit

/-- A plan of a region: the states in the order of the text, and what each operation sees in every order. -/
structure Rg where
  N : Nat
  A : Nat → SS
  V : Nat → SS
  S' : Nat → SS
  g : Nat → Guard
  eff : Nat → Eff
  dst : Nat → Option Nat
  tch : Nat → List Nat
  bef : Nat → Nat → Bool

namespace Rg
variable (r : Rg)
def n (i : Nat) : Nat := (r.A i).n
def len (i : Nat) : Nat := (r.A i).heap.length
def un (i j : Nat) : Bool := j != i && !r.bef i j && !r.bef j i
def wrB (i β : Nat) : Bool := (r.tch i).contains β || (decide (r.len i ≤ β) && decide (β < r.len (i + 1)))
def p (i β : Nat) : Bool := (List.range r.N).all fun j => !(r.un i j && decide (r.len j ≤ β) && decide (β < r.len (j + 1)))

structure Ok (E : Env) (ops : Array Oper) : Prop where
  size : ops.size = r.N
  op : ∀ i o, ops[i]? = some o → sop E ops.toList (r.V i) o = .ok (r.S' i, r.g i, r.eff i, r.tch i) ∧ o.dst = r.dst i
  edgeLt : ∀ i o e, ops[i]? = some o → e ∈ o.after → Region.binds .any e = true → e.on < i
  befE : ∀ i o j, ops[i]? = some o → r.bef i j = true → ∃ e, e ∈ o.after ∧ Region.binds .any e = true ∧ (j = e.on ∨ r.bef e.on j = true)
  vn : ∀ i, i < r.N → (r.V i).n = r.n i
  vslen : ∀ i, i < r.N → (r.V i).slots.length = (r.A i).slots.length
  vslot : ∀ i, i < r.N → ∀ (k : Nat) s, (r.V i).slots[k]? = some s → s = SV.undef ∨ ((r.A i).slots[k]? = some s ∧ ∀ j, j < r.N → r.un i j = true → r.dst j ≠ some k)
  vhlen : ∀ i, i < r.N → (r.V i).heap.length = r.len i
  vblk : ∀ i, i < r.N → ∀ (β : Nat) sb, (r.V i).heap[β]? = some sb → sb = .dead ∨ ((r.A i).heap[β]? = some sb ∧ ∀ j, j < r.N → r.un i j = true → r.wrB j β = false)
  an : ∀ i, i < r.N → r.n (i + 1) = (r.S' i).n
  anMono : ∀ i, i < r.N → r.n i ≤ r.n (i + 1)
  aslen : ∀ i, i < r.N → (r.A (i + 1)).slots.length = (r.A i).slots.length
  aslot : ∀ i, i < r.N → ∀ (k : Nat), (r.A (i + 1)).slots[k]? = if r.dst i = some k then (r.S' i).slots[k]? else (r.A i).slots[k]?
  alen : ∀ i, i < r.N → r.len (i + 1) = (r.S' i).heap.length
  ablk : ∀ i, i < r.N → ∀ (β : Nat), (r.A (i + 1)).heap[β]? = if r.wrB i β = true then (r.S' i).heap[β]? else (r.A i).heap[β]?
  lenS : ∀ i, i < r.N → r.len i ≤ r.len (i + 1)
  tlive : ∀ i, i < r.N → ∀ β, β ∈ r.tch i → live (r.V i).heap β
  cS : ∀ i j k, i < j → j < r.N → r.dst i = some k → r.dst j = some k → r.bef j i = true
  cB : ∀ i j β, i < j → j < r.N → r.wrB i β = true → r.wrB j β = true → r.bef j i = true
  refS : ∀ i, i < r.N → ∀ (k : Nat) s, r.dst i = some k → (r.S' i).slots[k]? = some s → refsSV (r.p i) s = true
  refB : ∀ i, i < r.N → ∀ (β : Nat) sb, r.wrB i β = true → (r.S' i).heap[β]? = some sb → refsSB (r.p i) sb = true

def lvS (L : Nat → Bool) (k : Nat) : Nat := lastLv (fun i => L i && r.dst i == some k) r.N
def lvB (L : Nat → Bool) (β : Nat) : Nat := lastLv (fun i => L i && r.wrB i β) r.N
def liveL (L : Nat → Bool) (β : Nat) : Prop := live (r.A (r.lvB L β)).heap β
def FL (X : Nat → Prop) (L : Nat → Bool) (μ : Mu) (w : World) (b : Nat) : Prop := (b < w.heap.size ∧ ¬ X b) ∧ ∀ β, r.liveL L β → ¬ (μ β).own b
end Rg

/-- The invariant: the operations of L have run. -/
structure RL (r : Rg) (X : Nat → Prop) (M : Hand) (w0 : World) (L : Nat → Bool) (μ : Mu) (ρN : List D) (a : Act) (w : World) : Prop where
  keeps : Keeps M w0 w
  size : a.tmps.size = (r.A 0).slots.length
  defers : a.defers = []
  slots : ∀ (k : Nat) s, (r.A (r.lvS L k)).slots[k]? = some s → SVR w (r.FL X L μ w) (r.len (r.lvS L k)) μ (ρN.take (r.n (r.lvS L k))) s (a.tmps.getD k Go.undef)
  blocks : ∀ (β : Nat) sb, (r.A (r.lvB L β)).heap[β]? = some sb → BlkR (fun b => w0.heap.size ≤ b ∨ M b) w (r.FL X L μ w) (r.len (r.lvB L β)) μ (ρN.take (r.n (r.lvB L β))) sb (μ β)
  ex : ∀ b, X b → b < w.heap.size
  inj : ∀ β γ, r.liveL L β → r.liveL L γ → β ≠ γ → ∀ b, (μ β).own b → ¬ (μ γ).own b
  exo : ∀ β, r.liveL L β → ∀ b, (μ β).own b → ¬ X b
  anc : ∀ (β : Nat) v, M.anc[β]? = some v → β < r.len 0 ∧ (μ β).v = v

/-- L keeps to the order. -/
structure Down (r : Rg) (L : Nat → Bool) : Prop where
  bef : ∀ i j, i < r.N → L i = true → r.bef i j = true → L j = true

section
variable {r : Rg} {E : Env} {ops : Array Oper} {X : Nat → Prop} {M : Hand} {w0 w : World} {L : Nat → Bool} {μ : Mu} {ρN : List D} {a : Act}

theorem Rg.Ok.befLt (h : r.Ok E ops) : ∀ i, i < r.N → ∀ j, r.bef i j = true → j < i := by
  intro i
  induction i using Nat.strongRecOn with
  | ind i ih =>
    intro hi j hj
    have hsz : i < ops.size := by rw [h.size]; exact hi
    obtain ⟨e, he, hb, hor⟩ := h.befE i ops[i] j (by simp [hsz]) hj
    have hlt := h.edgeLt i ops[i] e (by simp [hsz]) he hb
    rcases hor with rfl | h2
    · exact hlt
    · exact Nat.lt_trans (ih e.on hlt (Nat.lt_trans hlt hi) j h2) hlt

theorem Rg.Ok.nMono (h : r.Ok E ops) {i j : Nat} (hij : i ≤ j) (hj : j ≤ r.N) : r.n i ≤ r.n j := by
  induction j with
  | zero => rw [Nat.le_zero.1 hij]; exact Nat.le_refl _
  | succ j ih =>
    rcases Nat.lt_or_eq_of_le hij with hlt | rfl
    · exact Nat.le_trans (ih (Nat.le_of_lt_succ hlt) (Nat.le_of_lt hj)) (h.anMono j hj)
    · exact Nat.le_refl _

theorem Rg.Ok.lenStep (h : r.Ok E ops) {i : Nat} (hi : i < r.N) : r.len i ≤ r.len (i + 1) := h.lenS i hi

theorem Rg.Ok.lenMono (h : r.Ok E ops) {i j : Nat} (hij : i ≤ j) (hj : j ≤ r.N) : r.len i ≤ r.len j := by
  induction j with
  | zero => rw [Nat.le_zero.1 hij]; exact Nat.le_refl _
  | succ j ih =>
    rcases Nat.lt_or_eq_of_le hij with hlt | rfl
    · exact Nat.le_trans (ih (Nat.le_of_lt_succ hlt) (Nat.le_of_lt hj)) (h.lenStep hj)
    · exact Nat.le_refl _

theorem Rg.Ok.slenMono (h : r.Ok E ops) : ∀ i, i ≤ r.N → (r.A i).slots.length = (r.A 0).slots.length
  | 0, _ => rfl
  | i + 1, hi => (h.aslen i hi).trans (Rg.Ok.slenMono h i (Nat.le_of_lt hi))

/-- What i sees of a slot is what stands there. -/
theorem Rg.Ok.lvS_view (h : r.Ok E ops) (hD : Down r L) {i : Nat} (hi : i < r.N) (hni : L i = false) (hrd : ∀ j, r.bef i j = true → L j = true) {k : Nat} (hk : ∀ j, j < r.N → r.un i j = true → r.dst j ≠ some k) :
    r.lvS L k ≤ i ∧ (r.A (r.lvS L k)).slots[k]? = (r.A i).slots[k]? := by
  have key : ∀ j, j < r.N → r.dst j = some k → (i ≤ j → L j = false) ∧ (j < i → L j = true) := by
    intro j hj hd
    refine ⟨fun hij => ?_, fun hji => ?_⟩
    · rcases Nat.lt_or_eq_of_le hij with hlt | rfl
      · cases hL : L j with
        | false => rfl
        | true =>
          cases hb : r.bef j i with
          | true => rw [hD.bef j i hj hL hb] at hni; cases hni
          | false =>
            cases hb2 : r.bef i j with
            | true => have := h.befLt i hi j hb2; omega
            | false =>
              exact absurd hd (hk j hj (by simp [Rg.un, hb, hb2]; omega))
      · exact hni
    · cases hb : r.bef i j with
      | true => exact hrd j hb
      | false =>
        cases hb2 : r.bef j i with
        | true => have := h.befLt j hj i hb2; omega
        | false => exact absurd hd (hk j hj (by simp [Rg.un, hb, hb2]; omega))
  have e1 : r.lvS L k = lastLv (fun j => r.dst j == some k) i := by
    unfold Rg.lvS
    rw [lastLv_cut (i := i) (Nat.le_of_lt hi) (fun j h1 h2 => by
      cases hd : (r.dst j == some k) with
      | false => simp
      | true => simp [(key j h2 (by simpa using hd)).1 h1])]
    refine lastLv_congr fun j hj => ?_
    cases hd : (r.dst j == some k) with
    | false => simp
    | true => simp [(key j (Nat.lt_trans hj hi) (by simpa using hd)).2 hj]
  rw [e1]
  refine ⟨lastLv_le _ _, lastLv_val (v := fun i => (r.A i).slots[k]?) fun j hj hf => ?_⟩
  show (r.A (j + 1)).slots[k]? = _
  rw [h.aslot j (Nat.lt_trans hj hi), if_neg (by simpa using hf)]

theorem Rg.Ok.lvB_view (h : r.Ok E ops) (hD : Down r L) {i : Nat} (hi : i < r.N) (hni : L i = false) (hrd : ∀ j, r.bef i j = true → L j = true) {β : Nat} (hk : ∀ j, j < r.N → r.un i j = true → r.wrB j β = false) :
    r.lvB L β ≤ i ∧ (r.A (r.lvB L β)).heap[β]? = (r.A i).heap[β]? := by
  have key : ∀ j, j < r.N → r.wrB j β = true → (i ≤ j → L j = false) ∧ (j < i → L j = true) := by
    intro j hj hd
    refine ⟨fun hij => ?_, fun hji => ?_⟩
    · rcases Nat.lt_or_eq_of_le hij with hlt | rfl
      · cases hL : L j with
        | false => rfl
        | true =>
          cases hb : r.bef j i with
          | true => rw [hD.bef j i hj hL hb] at hni; cases hni
          | false =>
            cases hb2 : r.bef i j with
            | true => have := h.befLt i hi j hb2; omega
            | false =>
              have := hk j hj (by simp [Rg.un, hb, hb2]; omega)
              rw [this] at hd; cases hd
      · exact hni
    · cases hb : r.bef i j with
      | true => exact hrd j hb
      | false =>
        cases hb2 : r.bef j i with
        | true => have := h.befLt j hj i hb2; omega
        | false =>
          have := hk j hj (by simp [Rg.un, hb, hb2]; omega)
          rw [this] at hd; cases hd
  have e1 : r.lvB L β = lastLv (fun j => r.wrB j β) i := by
    unfold Rg.lvB
    rw [lastLv_cut (i := i) (Nat.le_of_lt hi) (fun j h1 h2 => by
      cases hd : r.wrB j β with
      | false => simp
      | true => simp [(key j h2 hd).1 h1])]
    refine lastLv_congr fun j hj => ?_
    cases hd : r.wrB j β with
    | false => simp
    | true => simp [(key j (Nat.lt_trans hj hi) hd).2 hj]
  rw [e1]
  refine ⟨lastLv_le _ _, lastLv_val (v := fun i => (r.A i).heap[β]?) fun j hj hf => ?_⟩
  show (r.A (j + 1)).heap[β]? = _
  rw [h.ablk j (Nat.lt_trans hj hi), if_neg (by simp [hf])]

/-- Live blocks lie in the heap. -/
theorem RL.own_lt (h : RL r X M w0 L μ ρN a w) {β : Nat} (hl : r.liveL L β) {b : Nat} (hb : (μ β).own b) : b < w.heap.size := by
  obtain ⟨sb, hs, hd⟩ := hl
  exact (h.blocks β sb hs).lt hd hb

/-- What i does not see of the own blocks. -/
def exV (r : Rg) (X : Nat → Prop) (L : Nat → Bool) (μ : Mu) (i : Nat) (b : Nat) : Prop := X b ∨ ∃ β, r.liveL L β ∧ ¬ live (r.V i).heap β ∧ (μ β).own b

theorem view_ok (h : r.Ok E ops) (hD : Down r L) (hR : RL r X M w0 L μ ρN a w) (hN : ρN.length = r.n r.N) {i : Nat} (hi : i < r.N) (hni : L i = false) (hrd : ∀ j, r.bef i j = true → L j = true) :
    (∀ β, live (r.V i).heap β → r.liveL L β) ∧ r.FL X L μ w = Fz (exV r X L μ i) (r.V i).heap μ w ∧ R (exV r X L μ i) M w0 (r.V i) μ (ρN.take (r.n i)) a w := by
  have hlv : ∀ β, live (r.V i).heap β → r.liveL L β := by
    intro β ⟨sb, hs, hd⟩
    rcases h.vblk i hi β sb hs with rfl | ⟨h1, h2⟩
    · exact absurd rfl hd
    · obtain ⟨_, h4⟩ := h.lvB_view hD hi hni hrd h2
      exact ⟨sb, by rw [h4]; exact h1, hd⟩
  have hF : r.FL X L μ w = Fz (exV r X L μ i) (r.V i).heap μ w := by
    funext b
    simp only [Rg.FL, Fz, exV, eq_iff_iff]
    constructor
    · rintro ⟨⟨h1, h2⟩, h3⟩
      refine ⟨⟨h1, ?_⟩, fun β hl => h3 β (hlv β hl)⟩
      rintro (hx | ⟨β, h4, _, h5⟩)
      · exact h2 hx
      · exact h3 β h4 h5
    · rintro ⟨⟨h1, h2⟩, h3⟩
      refine ⟨⟨h1, fun hx => h2 (.inl hx)⟩, fun β hl he => ?_⟩
      by_cases hv : live (r.V i).heap β
      · exact h3 β hv he
      · exact h2 (.inr ⟨β, hl, hv, he⟩)
  have hpre : ∀ {l : Nat}, l ≤ i → ∃ σ, ρN.take (r.n i) = ρN.take (r.n l) ++ σ := by
    intro l hl
    refine ⟨(ρN.take (r.n i)).drop (r.n l), ?_⟩
    have h1 := h.nMono hl (Nat.le_of_lt hi)
    have h2 : ρN.take (r.n l) = (ρN.take (r.n i)).take (r.n l) := by rw [List.take_take, Nat.min_eq_left h1]
    rw [h2, List.take_append_drop]
  have hgr : ∀ {l : Nat}, l ≤ i → Grows (r.FL X L μ w) (Fz (exV r X L μ i) (r.V i).heap μ w) (r.len l) (r.V i).heap.length μ μ (ρN.take (r.n l)) (ρN.take (r.n i)) w w := by
    intro l hl
    rw [hF, h.vhlen i hi]
    exact ⟨⟨fun _ h => h, fun _ _ => rfl⟩, hpre hl, h.lenMono hl (Nat.le_of_lt hi), fun _ _ => ⟨rfl, [], by simp⟩⟩
  refine ⟨hlv, hF, hR.keeps, ?_, ?_, hR.defers, fun k s hs => ?_, fun β sb hs => ?_, ?_, fun β γ h1 h2 => hR.inj β γ (hlv β h1) (hlv γ h2), fun β h1 b hb => ?_, fun β v hv => ⟨Nat.lt_of_lt_of_le (hR.anc β v hv).1 (by rw [h.vhlen i hi]; exact h.lenMono (Nat.zero_le i) (Nat.le_of_lt hi)), (hR.anc β v hv).2⟩⟩
  · rw [h.vn i hi, List.length_take, hN]
    exact Nat.min_eq_left (h.nMono (Nat.le_of_lt hi) (Nat.le_refl _))
  · rw [hR.size, h.vslen i hi, h.slenMono i (Nat.le_of_lt hi)]
  · rcases h.vslot i hi k s hs with rfl | ⟨h1, h2⟩
    · trivial
    · obtain ⟨h3, h4⟩ := h.lvS_view hD hi hni hrd h2
      exact (hR.slots k s (by rw [h4]; exact h1)).mono (hgr h3)
  · rcases h.vblk i hi β sb hs with rfl | ⟨h1, h2⟩
    · trivial
    · obtain ⟨h3, h4⟩ := h.lvB_view hD hi hni hrd h2
      exact (hR.blocks β sb (by rw [h4]; exact h1)).grow (hgr h3) (Nat.le_refl _) (fun _ _ => rfl)
  · rintro b (hx | ⟨β, h4, _, h5⟩)
    · exact hR.ex b hx
    · exact hR.own_lt h4 h5
  · rintro (hx | ⟨γ, h4, h5, h6⟩)
    · exact hR.exo β (hlv β h1) b hb hx
    · exact hR.inj β γ (hlv β h1) h4 (fun e => h5 (by rw [← e]; exact h1)) b hb h6

end
end Vs
