/-
  What a step leaves; the operations that touch the heap: variables.
-/
import Derived.Test.YtfpmhmngebnphaaNs12
namespace Vs
open Go Go.RowKit

section
variable {P : Program} {X : Nat → Prop} {M : Hand} {w0 w w' : World} {S : SS} {μ μ' : Mu} {ρ : List D} {a : Act}

theorem lop_place {XE : FuncId → Option Ext} {g : Guard} {o : Oper} {r : Loc} {v : SV} {ps : List Push} {ρ' : List D} (hX : ExtOk P XE) (h : lop P XE S g o = .ok r) (he : ownPlace S.n g r = (v, ps)) (hR : R X M w0 S μ ρ a w)
    (hg : g.ok ρ = true) (hp : pushAll ps ρ = some ρ') : ∃ u w', (execOp a.eval o).run P w = .ok (.value u) w' ∧ Quiet w w' ∧ SVR w (Fz X S.heap μ w) S.heap.length μ ρ' v u := by
  obtain ⟨v0, ps0⟩ := r
  unfold ownPlace at he
  split at he
  · rename_i t x e
    simp only [Prod.mk.injEq] at he e
    obtain ⟨rfl, rfl⟩ := he
    obtain ⟨rfl, rfl⟩ := e
    obtain ⟨u, w', h1, h2, d, hx, hd⟩ := lop_ok hX h hR hg (ρ' := ρ) rfl
    obtain ⟨d', hd', rfl⟩ := pushAll_one hp
    simp only [evs, List.map_cons, List.map_nil, Atom.ev_of_get hx, Prim.ev, Option.some.injEq] at hd'
    subst hd'
    exact ⟨u, w', h1, h2, _, get_new hR.len, hd⟩
  · simp only [Prod.mk.injEq] at he
    obtain ⟨rfl, rfl⟩ := he
    exact lop_ok hX h hR hg hp

theorem put_slots {dst : Option Nat} {v : SV} {S S' : SS} (h : S'.slots = S.slots) : put S' dst v = put S dst v := by
  unfold put; rw [h]

/-- What a step leaves as it was. -/
structure Fr (S : SS) (μ : Mu) (w : World) (a : Act) (dst : Option Nat) (tch : List Nat) (S' : SS) (μ' : Mu) (a' : Act) (w' : World) : Prop where
  act : ∃ u, a' = a.put dst u
  move : Move S μ w tch S'.heap μ' w'

theorem Move.none (hh : w'.heap = w.heap) (h1 : w'.os = w.os) (h2 : w'.tape = w.tape) (h3 : w'.output = w.output) : Move S μ w [] S.heap μ w' where
  tlive := by simp
  len := Nat.le_refl _
  same := fun _ _ _ => ⟨rfl, rfl⟩
  mu := fun _ _ => ⟨rfl, [], by simp⟩
  os := h1
  tape := h2
  output := h3
  size := by rw [hh]; exact Nat.le_refl _
  blk := fun b _ _ => by rw [hh]
  own := fun β hl h => by
    rcases h with h | h
    · simp at h
    · have := live_lt hl; omega
  inj := fun β γ hl _ h => by
    rcases h with h | h
    · simp at h
    · have := live_lt hl; omega

/-- What a step leaves. -/
def StepOk (P : Program) (X : Nat → Prop) (M : Hand) (w0 : World) (S : SS) (μ : Mu) (S' : SS) (o : Oper) (tch : List Nat) (a : Act) (w : World) (ρ' : List D) : Prop :=
  ∀ (K : Act → World → Prop) (Q : Exit → Act → World → Prop), (∀ μ' a' w', R X M w0 S' μ' ρ' a' w' → Fr S μ w a o.dst tch S' μ' a' w' → K a' w') → o.wp P a w K Q

theorem step_value {S' : SS} {o : Oper} {tch : List Nat} {ρ' : List D} {u : Value} (hr : (execOp a.eval o).run P w = .ok (.value u) w') (hR : R X M w0 S' μ' ρ' (a.put o.dst u) w')
    (hf : Move S μ w tch S'.heap μ' w') : StepOk P X M w0 S μ S' o tch a w ρ' := by
  intro K Q hK
  unfold Oper.wp
  rw [hr]
  exact hK _ _ _ hR ⟨⟨_, rfl⟩, hf⟩

theorem step_skip {S' : SS} {o : Oper} {tch : List Nat} {ρ' : List D} (hr : (execOp a.eval o).run P w = .ok .skip w') (hR : R X M w0 S' μ' ρ' (a.put o.dst Go.undef) w')
    (hf : Move S μ w tch S'.heap μ' w') : StepOk P X M w0 S μ S' o tch a w ρ' := by
  intro K Q hK
  unfold Oper.wp
  rw [hr]
  exact hK _ _ _ hR ⟨⟨_, rfl⟩, hf⟩

/-- What an operation on the heap comes to. -/
def HopOk (P : Program) (X : Nat → Prop) (M : Hand) (w0 : World) (S : SS) (μ : Mu) (o : Oper) (a : Act) (w : World) (ρ' : List D) (v : SV) (heap' : List SB) (tch : List Nat) : Prop :=
  ∃ nx u μ' w', (execOp a.eval o).run P w = .ok nx w' ∧ (nx = .value u ∨ (nx = .skip ∧ u = Go.undef)) ∧ Move S μ w tch heap' μ' w' ∧
    (∀ β sb, heap'[β]? = some sb → (β ∈ tch ∨ S.heap.length ≤ β) → BlkR (fun b => w0.heap.size ≤ b ∨ M b) w' (Fz X heap' μ' w') heap'.length μ' ρ' sb (μ' β)) ∧
    SVR w' (Fz X heap' μ' w') heap'.length μ' ρ' v u

theorem hop_step {o : Oper} {v : SV} {heap' : List SB} {tch : List Nat} {σ : List D} (h : HopOk P X M w0 S μ o a w (ρ ++ σ) v heap' tch) (hR : R X M w0 S μ ρ a w) {slots : List SV} (hp : put S o.dst v = .ok slots) :
    StepOk P X M w0 S μ { n := S.n + σ.length, slots, heap := heap' } o tch a w (ρ ++ σ) := by
  obtain ⟨nx, u, μ', w', h1, h2, h3, h4, h5⟩ := h
  have hR1 := R_env hR σ
  have m1 : Move { S with n := S.n + σ.length } μ w tch heap' μ' w' := ⟨h3.tlive, h3.len, h3.same, h3.mu, h3.os, h3.tape, h3.output, h3.size, h3.blk, h3.own, h3.inj⟩
  have hR2 := R_move hR1 m1 (fun _ => h4)
  have hR3 := R_put (dst := o.dst) (v := v) (u := u) (slots := slots) hR2 (by exact hp) h5
  rcases h2 with rfl | ⟨rfl, rfl⟩
  · exact step_value h1 hR3 h3
  · exact step_skip h1 hR3 h3

/-- One new block with memory of its own. -/
theorem Move.fresh {tch : List Nat} {heap1 : List SB} {sb : SB} {m : MV} (ht : ∀ γ, γ ∈ tch → ∃ sb, S.heap[γ]? = some sb ∧ mineB sb = true) (hl : heap1.length = S.heap.length) (hs : ∀ β, β ∉ tch → heap1[β]? = S.heap[β]?)
    (hdead : ∀ γ, γ ∈ tch → heap1[γ]? = some .dead) (h1 : w'.os = w.os) (h2 : w'.tape = w.tape) (h3 : w'.output = w.output) (hsz : w.heap.size ≤ w'.heap.size)
    (hblk : ∀ b, b < w.heap.size → (∀ γ, γ ∈ tch → ¬ (μ γ).own b) → w'.heap[b]? = w.heap[b]?) (hown : ∀ b, m.own b → w.heap.size ≤ b ∨ ∃ γ, γ ∈ tch ∧ (μ γ).own b) :
    Move S μ w tch (heap1 ++ [sb]) (fun β => if β < S.heap.length then μ β else m) w' := by
  have hnew : ∀ β, live (heap1 ++ [sb]) β → (β ∈ tch ∨ S.heap.length ≤ β) → β = S.heap.length := by
    intro β hlv h
    have hlt := live_lt hlv
    simp only [List.length_append, List.length_cons, List.length_nil, hl] at hlt
    rcases h with h | h
    · obtain ⟨s, hs', hd⟩ := hlv
      have hb : β < S.heap.length := by
        obtain ⟨s0, h0, _⟩ := ht β h
        exact (List.getElem?_eq_some_iff.1 h0).1
      rw [List.getElem?_append_left (by omega), hdead β h] at hs'
      simp only [Option.some.injEq] at hs'
      exact absurd hs'.symm hd
    · omega
  refine ⟨ht, by simp [hl], fun β hβ hn => ⟨by rw [List.getElem?_append_left (by omega)]; exact hs β hn, by simp [hβ]⟩, fun β hβ => ⟨by simp [hβ], [], by simp [hβ]⟩, h1, h2, h3, hsz, hblk, fun β hlv h b hb => ?_, fun β γ hβ hγ h4 h5 hne => ?_⟩
  · have := hnew β hlv h
    subst this
    simp only [Nat.lt_irrefl, if_false] at hb
    exact hown b hb
  · exact absurd ((hnew β hβ h4).trans (hnew γ hγ h5).symm) hne

/-- Variables: made, boxed. -/
theorem box_hop {o : Oper} {cs : List CV} {arr : Array Value} {T : TypeId} (hR : R X M w0 S μ ρ a w) (hr : (execOp a.eval o).run P w = .ok (.value (.pointer (some ⟨w.heap.size, 0, none⟩))) { w with heap := w.heap.push (.cells arr T) })
    (hc : CVRs w (Fz X S.heap μ w) S.heap.length μ ρ cs arr.toList) : HopOk P X M w0 S μ o a w ρ (.c (.s (.vptr S.heap.length 0))) (S.heap ++ [.var cs]) [] := by
  have m : Move S μ w [] (S.heap ++ [.var cs]) (fun β => if β < S.heap.length then μ β else MV.one (.pointer (some ⟨w.heap.size, 0, none⟩))) { w with heap := w.heap.push (.cells arr T) } :=
    Move.fresh (by simp) rfl (fun _ _ => rfl) (by simp) rfl rfl rfl (by simp) (fun b hb _ => by simp only; rw [Array.getElem?_push, if_neg (by omega)]) (fun b hb => by
      rcases hb with hb | ⟨u, hu, _⟩
      · simp only [MV.one, blkOf, Option.some.injEq] at hb; left; omega
      · simp [MV.one, MV.inner] at hu)
  refine ⟨_, _, _, _, hr, .inl rfl, m, fun β sb hb h => ?_, ?_⟩
  · have hge : S.heap.length ≤ β := by
      rcases h with h | h
      · simp at h
      · exact h
    rw [List.getElem?_append_right hge] at hb
    have hβ : β = S.heap.length := by
      have := (List.getElem?_eq_some_iff.1 hb).1
      simp at this; omega
    subst hβ
    simp only [Nat.sub_self, List.getElem?_cons_zero, Option.some.injEq] at hb
    subst hb
    simp only [Nat.lt_irrefl, if_false]
    exact ⟨rfl, w.heap.size, arr, T, rfl, .inl hR.keeps.size, by simp, hc.mono (m.grows (X := X) (ρ := ρ))⟩
  · exact ⟨by simp, w.heap.size, by simp [MV.one], rfl⟩

/-- A store into a variable. -/
theorem Move.write {β : Nat} {sb sb' : SB} (hs : S.heap[β]? = some sb) (hm : mineB sb = true) (h1 : w'.os = w.os) (h2 : w'.tape = w.tape) (h3 : w'.output = w.output) (hsz : w'.heap.size = w.heap.size)
    (hblk : ∀ b, ¬ (μ β).own b → w'.heap[b]? = w.heap[b]?) : Move S μ w [β] (S.heap.set β sb') μ w' := by
  have hlt := (List.getElem?_eq_some_iff.1 hs).1
  have only : ∀ γ, live (S.heap.set β sb') γ → (γ ∈ [β] ∨ S.heap.length ≤ γ) → γ = β := by
    intro γ hl h
    rcases h with h | h
    · simpa using h
    · have := live_lt hl; simp at this; omega
  refine ⟨fun γ hγ => ?_, by simp, fun γ hγ hn => ⟨?_, rfl⟩, fun _ _ => ⟨rfl, [], by simp⟩, h1, h2, h3, by rw [hsz]; exact Nat.le_refl _, fun b _ hb => hblk b (hb β (by simp)), fun γ hl h b hb => ?_, fun γ δ hγ hδ h4 h5 hne => ?_⟩
  · simp only [List.mem_singleton] at hγ; subst hγ; exact ⟨sb, hs, hm⟩
  · rw [List.getElem?_set_ne]; simpa [eq_comm] using hn
  · have := only γ hl h; subst this; exact .inr ⟨γ, by simp, hb⟩
  · exact absurd ((only γ hγ h4).trans (only δ hδ h5).symm) hne

theorem store_var_hop {o : Oper} {t : TypeId} {p x : Operand} {β off sz : Nat} {s : SV} {ag : Bool} {vs cs : List CV} (ho : o.op = .store t p x) (hR : R X M w0 S μ ρ a w) (h1 : getSV S p = .ok (.c (.s (.vptr β off)))) (h2 : getSV S x = .ok s) (hz : sizeB P t = some sz)
    (hvs : svCells s = some (ag, vs)) (hcs : S.heap[β]? = some (.var cs)) (hlen : vs.length = sz ∧ off + sz ≤ cs.length ∧ vs.all plainCV = true) :
    HopOk P X M w0 S μ o a w ρ SV.undef (S.heap.set β (.var (cs.take off ++ vs ++ cs.drop (off + sz)))) [β] := by
  have hC := svCells_ok hvs hlen.2.2 (getSV_ok h2 hR.slots)
  obtain ⟨_, b, hb, hpv⟩ := getSV_ok h1 hR.slots
  obtain ⟨h0, b', arr, T, hb', hmine, hheap, hC0⟩ := hR.blocks β _ hcs
  rw [hb] at hb'
  simp only [Value.pointer.injEq, Option.some.injEq, Addr.mk.injEq, and_true] at hb'
  subst hb'
  have hcl := hC0.length
  have hvl := hC.length
  have hone := CVRs_one hlen.2.2 hC
  simp only [Array.length_toList] at hcl hvl
  have hst := run_storeCells_at P b off T (a.eval x).cells.toList 0 arr w hheap (by simp; omega) hone
  simp only [Nat.add_zero] at hst
  have hown : ∀ k, (μ β).own k ↔ b = k := by
    intro k
    rw [MV.own_flat h0, hb]
    simp [blkOf]
  have m : Move S μ w [β] (S.heap.set β (.var (cs.take off ++ vs ++ cs.drop (off + sz)))) μ (w.setRow b (arr.toList.take off ++ (a.eval x).cells.toList ++ arr.toList.drop (off + (a.eval x).cells.toList.length)).toArray) :=
    Move.write hcs rfl rfl rfl rfl (by simp) fun k hk => setRow_other w b k _ (fun e => hk ((hown k).2 e.symm))
  refine ⟨.skip, Go.undef, μ, _, ?_, .inr ⟨rfl, rfl⟩, m, fun γ sb hγ h => ?_, trivial⟩
  · have hsz : (a.eval x).cells.size = sz := by omega
    simp [execOp, ho, hpv, Instr.storeAt, Instr.sureAddr, storeVar, sizeB_run hz, hsz] at hst ⊢
    simp [hst]
  · have hγβ : γ = β := by
      rcases h with h | h
      · simpa using h
      · have := (List.getElem?_eq_some_iff.1 hγ).1; simp at this; omega
    subst hγβ
    rw [List.getElem?_set_self (List.getElem?_eq_some_iff.1 hcs).1] at hγ
    simp only [Option.some.injEq] at hγ
    subst hγ
    have hgr := m.grows (X := X) (ρ := ρ)
    refine ⟨h0, b, _, T, hb, hmine, setRow_heap w b arr _ T _ hheap, ?_⟩
    have e3 : off + (a.eval x).cells.toList.length = off + sz := by simp; omega
    have h9 := (((hC0.take off).append hC).append (hC0.drop (off + sz))).mono hgr
    rw [← e3] at h9 ⊢
    exact h9

end
end Vs
