/-
  What a step leaves; the operations that touch the heap: variables.
-/
import Derived.Test.YthgocnlbnghbbaaA
import Derived.Great.BuildSlice
import Derived.Orders
namespace Vs
open Go Go.RowKit

section
variable {P : Program} {X : Nat → Prop} {M : Hand} {w0 w w' : World} {S : SS} {μ μ' : Mu} {ρ : List D} {a : Act}

theorem lop_place {XE : FuncId → Option Ext} {g : Guard} {o : Oper} {r : Loc} {v : SV} {ps : List Push} {ρ' : List D} (hX : ExtOk P XE) (h : lop P XE S g o = .ok r) (he : ownPlace S.n g r = (v, ps)) (hR : R X M w0 S μ ρ a w)
    (hg : g.ok ρ = true) (hp : pushAll ps ρ = some ρ') : ∃ u w', (execOp a.eval o).run P w = .ok (.value u) w' ∧ Quiet w w' ∧ SVR w (Fz X S.heap μ w) S.heap.length μ ρ' v u := by
  obtain ⟨v0, ps0⟩ := r
  unfold ownPlace at he
  split at he
  · rename_i t x e
    simp only [Prod.mk.injEq] at he e
    obtain ⟨rfl, rfl⟩ := he
    obtain ⟨rfl, rfl⟩ := e
    obtain ⟨u, w', h1, h2, d, hx, hd⟩ := lop_ok hX h hR hg (ρ' := ρ) rfl
    obtain ⟨d', hd', rfl⟩ := pushAll_one hp
    simp only [evs, List.map_cons, List.map_nil, Atom.ev_of_get hx, Prim.ev, Option.some.injEq] at hd'
    subst hd'
    exact ⟨u, w', h1, h2, _, get_new hR.len, hd⟩
  · simp only [Prod.mk.injEq] at he
    obtain ⟨rfl, rfl⟩ := he
    exact lop_ok hX h hR hg hp

theorem put_slots {dst : Option Nat} {v : SV} {S S' : SS} (h : S'.slots = S.slots) : put S' dst v = put S dst v := by
  unfold put; rw [h]

/-- What a step leaves as it was. -/
structure Fr (S : SS) (μ : Mu) (w : World) (a : Act) (dst : Option Nat) (tch : List Nat) (S' : SS) (μ' : Mu) (a' : Act) (w' : World) : Prop where
  act : ∃ u, a' = a.put dst u
  move : Move S μ w tch S'.heap μ' w'

theorem Move.none (hh : w'.heap = w.heap) (h1 : w'.os = w.os) (h2 : w'.tape = w.tape) (h3 : w'.output = w.output) : Move S μ w [] S.heap μ w' where
  tlive := by simp
  len := Nat.le_refl _
  same := fun _ _ _ => ⟨rfl, rfl⟩
  mu := fun _ _ => ⟨rfl, [], by simp⟩
  os := h1
  tape := h2
  output := h3
  size := by rw [hh]; exact Nat.le_refl _
  blk := fun b _ _ => by rw [hh]
  own := fun β hl h => by
    rcases h with h | h
    · simp at h
    · have := live_lt hl; omega
  inj := fun β γ hl _ h => by
    rcases h with h | h
    · simp at h
    · have := live_lt hl; omega

/-- What a step leaves. -/
def StepOk (P : Program) (X : Nat → Prop) (M : Hand) (w0 : World) (S : SS) (μ : Mu) (S' : SS) (o : Oper) (tch : List Nat) (a : Act) (w : World) (ρ' : List D) : Prop :=
  ∀ (K : Act → World → Prop) (Q : Exit → Act → World → Prop), (∀ μ' a' w', R X M w0 S' μ' ρ' a' w' → Fr S μ w a o.dst tch S' μ' a' w' → K a' w') → o.wp P a w K Q

theorem step_value {S' : SS} {o : Oper} {tch : List Nat} {ρ' : List D} {u : Value} (hr : (execOp a.eval o).run P w = .ok (.value u) w') (hR : R X M w0 S' μ' ρ' (a.put o.dst u) w')
    (hf : Move S μ w tch S'.heap μ' w') : StepOk P X M w0 S μ S' o tch a w ρ' := by
  intro K Q hK
  unfold Oper.wp
  rw [hr]
  exact hK _ _ _ hR ⟨⟨_, rfl⟩, hf⟩

theorem step_skip {S' : SS} {o : Oper} {tch : List Nat} {ρ' : List D} (hr : (execOp a.eval o).run P w = .ok .skip w') (hR : R X M w0 S' μ' ρ' (a.put o.dst Go.undef) w')
    (hf : Move S μ w tch S'.heap μ' w') : StepOk P X M w0 S μ S' o tch a w ρ' := by
  intro K Q hK
  unfold Oper.wp
  rw [hr]
  exact hK _ _ _ hR ⟨⟨_, rfl⟩, hf⟩

/-- What an operation on the heap comes to. -/
def HopOk (P : Program) (X : Nat → Prop) (M : Hand) (w0 : World) (S : SS) (μ : Mu) (o : Oper) (a : Act) (w : World) (ρ' : List D) (v : SV) (heap' : List SB) (tch : List Nat) : Prop :=
  ∃ nx u μ' w', (execOp a.eval o).run P w = .ok nx w' ∧ (nx = .value u ∨ (nx = .skip ∧ u = Go.undef)) ∧ Move S μ w tch heap' μ' w' ∧
    (∀ β sb, heap'[β]? = some sb → (β ∈ tch ∨ S.heap.length ≤ β) → BlkR (fun b => w0.heap.size ≤ b ∨ M b) w' (Fz X heap' μ' w') heap'.length μ' ρ' sb (μ' β)) ∧
    SVR w' (Fz X heap' μ' w') heap'.length μ' ρ' v u

theorem hop_step {o : Oper} {v : SV} {heap' : List SB} {tch : List Nat} {σ : List D} (h : HopOk P X M w0 S μ o a w (ρ ++ σ) v heap' tch) (hR : R X M w0 S μ ρ a w) {slots : List SV} (hp : put S o.dst v = .ok slots) :
    StepOk P X M w0 S μ { n := S.n + σ.length, slots, heap := heap' } o tch a w (ρ ++ σ) := by
  obtain ⟨nx, u, μ', w', h1, h2, h3, h4, h5⟩ := h
  have hR1 := R_env hR σ
  have m1 : Move { S with n := S.n + σ.length } μ w tch heap' μ' w' := ⟨h3.tlive, h3.len, h3.same, h3.mu, h3.os, h3.tape, h3.output, h3.size, h3.blk, h3.own, h3.inj⟩
  have hR2 := R_move hR1 m1 (fun _ => h4)
  have hR3 := R_put (dst := o.dst) (v := v) (u := u) (slots := slots) hR2 (by exact hp) h5
  rcases h2 with rfl | ⟨rfl, rfl⟩
  · exact step_value h1 hR3 h3
  · exact step_skip h1 hR3 h3

/-- One new block with memory of its own. -/
theorem Move.fresh {tch : List Nat} {heap1 : List SB} {sb : SB} {m : MV} (ht : ∀ γ, γ ∈ tch → ∃ sb, S.heap[γ]? = some sb ∧ mineB sb = true) (hl : heap1.length = S.heap.length) (hs : ∀ β, β ∉ tch → heap1[β]? = S.heap[β]?)
    (hdead : ∀ γ, γ ∈ tch → heap1[γ]? = some .dead) (h1 : w'.os = w.os) (h2 : w'.tape = w.tape) (h3 : w'.output = w.output) (hsz : w.heap.size ≤ w'.heap.size)
    (hblk : ∀ b, b < w.heap.size → (∀ γ, γ ∈ tch → ¬ (μ γ).own b) → w'.heap[b]? = w.heap[b]?) (hown : ∀ b, m.own b → w.heap.size ≤ b ∨ ∃ γ, γ ∈ tch ∧ (μ γ).own b) :
    Move S μ w tch (heap1 ++ [sb]) (fun β => if β < S.heap.length then μ β else m) w' := by
  have hnew : ∀ β, live (heap1 ++ [sb]) β → (β ∈ tch ∨ S.heap.length ≤ β) → β = S.heap.length := by
    intro β hlv h
    have hlt := live_lt hlv
    simp only [List.length_append, List.length_cons, List.length_nil, hl] at hlt
    rcases h with h | h
    · obtain ⟨s, hs', hd⟩ := hlv
      have hb : β < S.heap.length := by
        obtain ⟨s0, h0, _⟩ := ht β h
        exact (List.getElem?_eq_some_iff.1 h0).1
      rw [List.getElem?_append_left (by omega), hdead β h] at hs'
      simp only [Option.some.injEq] at hs'
      exact absurd hs'.symm hd
    · omega
  refine ⟨ht, by simp [hl], fun β hβ hn => ⟨by rw [List.getElem?_append_left (by omega)]; exact hs β hn, by simp [hβ]⟩, fun β hβ => ⟨by simp [hβ], [], by simp [hβ]⟩, h1, h2, h3, hsz, hblk, fun β hlv h b hb => ?_, fun β γ hβ hγ h4 h5 hne => ?_⟩
  · have := hnew β hlv h
    subst this
    simp only [Nat.lt_irrefl, if_false] at hb
    exact hown b hb
  · exact absurd ((hnew β hβ h4).trans (hnew γ hγ h5).symm) hne

/-- Variables: made, boxed. -/
theorem box_hop {o : Oper} {cs : List CV} {arr : Array Value} {T : TypeId} (hR : R X M w0 S μ ρ a w) (hr : (execOp a.eval o).run P w = .ok (.value (.pointer (some ⟨w.heap.size, 0, none⟩))) { w with heap := w.heap.push (.cells arr T) })
    (hc : CVRs w (Fz X S.heap μ w) S.heap.length μ ρ cs arr.toList) : HopOk P X M w0 S μ o a w ρ (.c (.s (.vptr S.heap.length 0))) (S.heap ++ [.var cs]) [] := by
  have m : Move S μ w [] (S.heap ++ [.var cs]) (fun β => if β < S.heap.length then μ β else MV.one (.pointer (some ⟨w.heap.size, 0, none⟩))) { w with heap := w.heap.push (.cells arr T) } :=
    Move.fresh (by simp) rfl (fun _ _ => rfl) (by simp) rfl rfl rfl (by simp) (fun b hb _ => by simp only; rw [Array.getElem?_push, if_neg (by omega)]) (fun b hb => by
      rcases hb with hb | ⟨u, hu, _⟩
      · simp only [MV.one, blkOf, Option.some.injEq] at hb; left; omega
      · simp [MV.one, MV.inner] at hu)
  refine ⟨_, _, _, _, hr, .inl rfl, m, fun β sb hb h => ?_, ?_⟩
  · have hge : S.heap.length ≤ β := by
      rcases h with h | h
      · simp at h
      · exact h
    rw [List.getElem?_append_right hge] at hb
    have hβ : β = S.heap.length := by
      have := (List.getElem?_eq_some_iff.1 hb).1
      simp at this; omega
    subst hβ
    simp only [Nat.sub_self, List.getElem?_cons_zero, Option.some.injEq] at hb
    subst hb
    simp only [Nat.lt_irrefl, if_false]
    exact ⟨rfl, w.heap.size, arr, T, rfl, .inl hR.keeps.size, by simp, hc.mono (m.grows (X := X) (ρ := ρ))⟩
  · exact ⟨by simp, w.heap.size, by simp [MV.one], rfl⟩

/-- A store into a variable. -/
theorem Move.write {β : Nat} {sb sb' : SB} (hs : S.heap[β]? = some sb) (hm : mineB sb = true) (h1 : w'.os = w.os) (h2 : w'.tape = w.tape) (h3 : w'.output = w.output) (hsz : w'.heap.size = w.heap.size)
    (hblk : ∀ b, ¬ (μ β).own b → w'.heap[b]? = w.heap[b]?) : Move S μ w [β] (S.heap.set β sb') μ w' := by
  have hlt := (List.getElem?_eq_some_iff.1 hs).1
  have only : ∀ γ, live (S.heap.set β sb') γ → (γ ∈ [β] ∨ S.heap.length ≤ γ) → γ = β := by
    intro γ hl h
    rcases h with h | h
    · simpa using h
    · have := live_lt hl; simp at this; omega
  refine ⟨fun γ hγ => ?_, by simp, fun γ hγ hn => ⟨?_, rfl⟩, fun _ _ => ⟨rfl, [], by simp⟩, h1, h2, h3, by rw [hsz]; exact Nat.le_refl _, fun b _ hb => hblk b (hb β (by simp)), fun γ hl h b hb => ?_, fun γ δ hγ hδ h4 h5 hne => ?_⟩
  · simp only [List.mem_singleton] at hγ; subst hγ; exact ⟨sb, hs, hm⟩
  · rw [List.getElem?_set_ne]; simpa [eq_comm] using hn
  · have := only γ hl h; subst this; exact .inr ⟨γ, by simp, hb⟩
  · exact absurd ((only γ hγ h4).trans (only δ hδ h5).symm) hne

theorem store_var_hop {o : Oper} {t : TypeId} {p x : Operand} {β off sz : Nat} {s : SV} {ag : Bool} {vs cs : List CV} (ho : o.op = .store t p x) (hR : R X M w0 S μ ρ a w) (h1 : getSV S p = .ok (.c (.s (.vptr β off)))) (h2 : getSV S x = .ok s) (hz : sizeB P t = some sz)
    (hvs : svCells s = some (ag, vs)) (hcs : S.heap[β]? = some (.var cs)) (hlen : vs.length = sz ∧ off + sz ≤ cs.length ∧ vs.all plainCV = true) :
    HopOk P X M w0 S μ o a w ρ SV.undef (S.heap.set β (.var (cs.take off ++ vs ++ cs.drop (off + sz)))) [β] := by
  have hC := svCells_ok hvs hlen.2.2 (getSV_ok h2 hR.slots)
  obtain ⟨_, b, hb, hpv⟩ := getSV_ok h1 hR.slots
  obtain ⟨h0, b', arr, T, hb', hmine, hheap, hC0⟩ := hR.blocks β _ hcs
  rw [hb] at hb'
  simp only [Value.pointer.injEq, Option.some.injEq, Addr.mk.injEq, and_true] at hb'
  subst hb'
  have hcl := hC0.length
  have hvl := hC.length
  have hone := CVRs_one hlen.2.2 hC
  simp only [Array.length_toList] at hcl hvl
  have hst := run_storeCells_at P b off T (a.eval x).cells.toList 0 arr w hheap (by simp; omega) hone
  simp only [Nat.add_zero] at hst
  have hown : ∀ k, (μ β).own k ↔ b = k := by
    intro k
    rw [MV.own_flat h0, hb]
    simp [blkOf]
  have m : Move S μ w [β] (S.heap.set β (.var (cs.take off ++ vs ++ cs.drop (off + sz)))) μ (w.setRow b (arr.toList.take off ++ (a.eval x).cells.toList ++ arr.toList.drop (off + (a.eval x).cells.toList.length)).toArray) :=
    Move.write hcs rfl rfl rfl rfl (by simp) fun k hk => setRow_other w b k _ (fun e => hk ((hown k).2 e.symm))
  refine ⟨.skip, Go.undef, μ, _, ?_, .inr ⟨rfl, rfl⟩, m, fun γ sb hγ h => ?_, trivial⟩
  · have hsz : (a.eval x).cells.size = sz := by omega
    simp [execOp, ho, hpv, Instr.storeAt, Instr.sureAddr, storeVar, sizeB_run hz, hsz] at hst ⊢
    simp [hst]
  · have hγβ : γ = β := by
      rcases h with h | h
      · simpa using h
      · have := (List.getElem?_eq_some_iff.1 hγ).1; simp at this; omega
    subst hγβ
    rw [List.getElem?_set_self (List.getElem?_eq_some_iff.1 hcs).1] at hγ
    simp only [Option.some.injEq] at hγ
    subst hγ
    have hgr := m.grows (X := X) (ρ := ρ)
    refine ⟨h0, b, _, T, hb, hmine, setRow_heap w b arr _ T _ hheap, ?_⟩
    have e3 : off + (a.eval x).cells.toList.length = off + sz := by simp; omega
    have h9 := (((hC0.take off).append hC).append (hC0.drop (off + sz))).mono hgr
    rw [← e3] at h9 ⊢
    exact h9

end
end Vs

namespace Vs
open Go Go.RowKit

section
variable {P : Program} {X : Nat → Prop} {M : Hand} {w0 w w' : World} {S : SS} {μ μ' : Mu} {ρ : List D} {a : Act}

theorem resAll_length : ∀ (rs : List (Bool × List RK)) (n h : Nat), (resAll rs n h).1.length = rs.length
  | [], _, _ => rfl
  | (_, rks) :: r, n, h => by simp [resAll, resAll_length r]

theorem updMA_mem {p : Nat × MV} : ∀ {mas : List MA} {ks : List MV}, p ∈ updMA μ mas ks → (∃ ma ∈ mas, ma.β = p.1 ∧ ma.keep = true) ∧ p.2.v = (μ p.1).v ∧ (∃ ext, p.2.hist = (μ p.1).hist ++ ext) ∧
      ∃ k, (p.2 = μ p.1 ∨ (k ∈ ks ∧ p.2.inner = k.inner))
  | [], ks, h => by simp [updMA] at h
  | ma :: mas, ks, h => by
    rw [updMA.eq_def] at h
    simp only at h
    split at h
    · obtain ⟨⟨m, h1, h2⟩, h3⟩ := updMA_mem h
      exact ⟨⟨m, by simp [h1], h2⟩, h3⟩
    · rename_i hk
      have hk : ma.keep = true := by simpa using hk
      cases ks with
      | nil => simp at h
      | cons k ks =>
        simp only [List.mem_cons] at h
        rcases h with rfl | h
        · refine ⟨⟨ma, by simp, rfl, hk⟩, ?_⟩
          dsimp only
          split
          · exact ⟨rfl, ⟨_, rfl⟩, k, .inr ⟨by simp, by simp [MV.inner]⟩⟩
          · exact ⟨rfl, ⟨[], by simp⟩, k, .inl rfl⟩
        · obtain ⟨⟨m, h1, h2⟩, h3, h4, k', h5⟩ := updMA_mem h
          refine ⟨⟨m, by simp [h1], h2⟩, h3, h4, k', ?_⟩
          rcases h5 with h5 | ⟨h5, h6⟩
          · exact .inl h5
          · exact .inr ⟨by simp [h5], h6⟩

def cntK (mas : List MA) (i : Nat) : Nat := ((mas.take i).filter (·.keep)).length
theorem cntK_lt {mas : List MA} : ∀ {i i' : Nat} {ma : MA}, i < i' → mas[i]? = some ma → ma.keep = true → i' ≤ mas.length → cntK mas i < cntK mas i' := by
  induction mas with
  | nil => intro i i' ma _ h; simp at h
  | cons a as ih =>
    intro i i' ma hlt h hk hl
    cases i' with
    | zero => omega
    | succ i' =>
      cases i with
      | zero =>
        simp only [List.getElem?_cons_zero, Option.some.injEq] at h
        subst h
        simp [cntK, hk]
      | succ i =>
        simp only [List.getElem?_cons_succ] at h
        have := ih (i := i) (i' := i') (by omega) h hk (by simpa using hl)
        simp only [cntK, List.take_succ_cons, List.filter_cons] at this ⊢
        split <;> simp <;> omega
theorem cntK_inj {mas : List MA} {i i' : Nat} {ma ma' : MA} (h : mas[i]? = some ma) (h' : mas[i']? = some ma') (hk : ma.keep = true) (hk' : ma'.keep = true) (he : cntK mas i = cntK mas i') : i = i' := by
  have l1 := (List.getElem?_eq_some_iff.1 h).1
  have l2 := (List.getElem?_eq_some_iff.1 h').1
  rcases Nat.lt_trichotomy i i' with h1 | h1 | h1
  · have := cntK_lt h1 h hk (by omega); omega
  · exact h1
  · have := cntK_lt h1 h' hk' (by omega); omega

/-- Which thing handed back belongs to an own block that a call turned. -/
theorem updMA_kept {ρ0 : List D} {masA : List MA} {hsA : List HM} (c : CallOk X M w0 w w' S μ ρ a ρ0 masA hsA) {p : Nat × MV} :
    ∀ {mas : List MA} {hs : List HM} {off : Nat} {ks : List MV} {ds : List D}, (∀ (i : Nat) ma, mas[i]? = some ma → masA[off + i]? = some ma) → (∀ (i : Nat) x, hs[i]? = some x → hsA[off + i]? = some x) → mas.length = hs.length →
      KeptR w' hs ds ks → p ∈ updMA μ mas ks → ∃ (i : Nat) (ma : MA) (x : HM) (j : Nat) (k : MV), mas[i]? = some ma ∧ hs[i]? = some x ∧ ma.β = p.1 ∧ ks[j]? = some k ∧ (ma.keep = true ∧ j = cntK mas i) ∧
        ∀ b, p.2.own b → k.own b ∨ (ma.at? ≠ none ∧ (μ p.1).own b ∧ ¬ x.m.own b)
  | [], hs, off, ks, ds, _, _, _, _, h => by simp [updMA] at h
  | ma :: mas, [], off, ks, ds, _, _, hl, _, _ => by simp at hl
  | ma :: mas, x :: hs, off, ks, ds, hA, hB, hl, hk, h => by
    have hA0 := hA 0 ma rfl
    have hB0 := hB 0 x rfl
    simp only [Nat.add_zero] at hA0 hB0
    have hA' : ∀ (i : Nat) ma', mas[i]? = some ma' → masA[off + 1 + i]? = some ma' := fun i ma' hi => by
      have := hA (i + 1) ma' (by simpa using hi); rw [show off + 1 + i = off + (i + 1) from by omega]; exact this
    have hB' : ∀ (i : Nat) y, hs[i]? = some y → hsA[off + 1 + i]? = some y := fun i y hi => by
      have := hB (i + 1) y (by simpa using hi); rw [show off + 1 + i = off + (i + 1) from by omega]; exact this
    have hll : mas.length = hs.length := by simpa using hl
    obtain ⟨ma0, hma0, hok0⟩ := c.hms.get hB0
    rw [hA0] at hma0
    simp only [Option.some.injEq] at hma0
    subst hma0
    obtain ⟨hk1, hk2, hk3⟩ := hok0
    rw [updMA.eq_def] at h
    simp only at h
    split at h
    · rename_i hkeep
      have hk' : KeptR w' hs ds ks := by
        unfold KeptR at hk
        rw [hk2, hkeep] at hk
        simpa using hk
      obtain ⟨i, ma', x', j, k, e1, e2, e3, e4, ⟨e5, e6⟩, e7⟩ := updMA_kept c hA' hB' hll hk' h
      exact ⟨i + 1, ma', x', j, k, by simpa using e1, by simpa using e2, e3, e4, ⟨e5, by simp [cntK, hkeep] at e6 ⊢; exact e6⟩, e7⟩
    · rename_i hkeep
      have hkeep : ma.keep = true := by simpa using hkeep
      unfold KeptR at hk
      rw [hk2, hkeep, if_pos rfl] at hk
      obtain ⟨d, d2, k, k2, rfl, rfl, hkv, hko, hkr⟩ := hk
      simp only [List.mem_cons] at h
      rcases h with rfl | h
      · refine ⟨0, ma, x, 0, k, rfl, rfl, rfl, rfl, ⟨hkeep, by simp [cntK]⟩, fun b hb => ?_⟩
        rw [hk1] at hko
        obtain ⟨sb, hsb, hfit, _⟩ := c.ok ma (List.mem_of_getElem? hA0)
        have hko0 := hko (fun _ => True)
        cases hat : ma.at? with
        | none =>
          rw [hat] at hk3 hb hfit
          obtain ⟨g1, g2⟩ := hk3
          left
          cases hkk : ma.k with
          | rows et f e =>
            rw [hkk] at hko0
            obtain ⟨hh1, _⟩ := hko0
            obtain ⟨l0, hl0⟩ := List.length_eq_one_iff.1 hh1
            rw [hl0] at hb
            rcases hb with hb | hb
            · left; rw [hkv, g1]; exact hb
            · right; simpa [MV.inner] using hb
          | row t e =>
            rw [hkk] at hko0 hfit
            obtain ⟨hh1, _⟩ := hko0
            rw [hh1] at hb
            have hblk := c.r.blocks ma.β sb hsb
            cases sb <;> first | exact hfit.elim | skip
            have h0 := hblk.1
            left
            rw [hkv, g1]
            exact (MV.own_flat h0).1 hb
        | some i =>
          rw [hat] at hk3 hb
          obtain ⟨_, hxh, n, _, _, hrow⟩ := hk3
          by_cases hx : x.m.own b
          · left; left; rw [hkv]; exact (MV.own_flat hxh).1 hx
          · exact .inr ⟨by simp, hb, hx⟩
      · obtain ⟨i, ma', x', j, k', e1, e2, e3, e4, ⟨e5, e6⟩, e7⟩ := updMA_kept c hA' hB' hll hkr h
        exact ⟨i + 1, ma', x', j + 1, k', by simpa using e1, by simpa using e2, e3, by simpa using e4, ⟨e5, by simp [cntK, hkeep] at e6 ⊢; exact e6⟩, e7⟩

theorem keptR_len : ∀ {hs : List HM} {ds : List D} {ks : List MV}, KeptR w' hs ds ks → ds.length = (hs.filter (·.keep)).length
  | [], ds, ks, h => by rw [h.1]; rfl
  | x :: hs, ds, ks, h => by
    unfold KeptR at h
    split at h
    · rename_i hk
      obtain ⟨d, d2, k, k2, rfl, rfl, _, _, h5⟩ := h
      simp [hk, keptR_len h5]
    · rename_i hk
      simp [hk, keptR_len h]

theorem call_ok {f : FuncId} {sg : Sig} {G : List D → Option (List D)} {o : Oper} {g : Guard} {ss : List SV} {vs : List Value} {ar : AR} {hE : List SB} {post : List Push} (hs : SoundCall P f sg G)
    (ho : (execOp a.eval o).run P w = ((callFunc f vs.toArray).run P w)) (h : R X M w0 S μ ρ a w) (hg : g.ok ρ = true) (hgg : ∀ x want, g = some (x, want) → x.get ρ ≠ none)
    (hvs : ss.length = vs.length) (hss : ∀ (j : Nat) s u, ss[j]? = some s → vs[j]? = some u → SVR w (Fz X S.heap μ w) S.heap.length μ ρ s u)
    (h2 : argAll S S.n sg.params ss = .ok ar) (haft : afterMA ar.mas (S.n + ar.pre.length + resCount sg.results) (S.n + ar.pre.length + (resCount sg.results + sg.keeps.length)) S.heap = (hE, post))
    (hnd : (ar.mas.map MA.β).Nodup) (hrd : ∀ β ∈ ar.rds, β ∉ ar.mas.map MA.β)
    {v : SV} (hv : resSV (resAll sg.results (S.n + ar.pre.length) S.heap.length).1 = some v) {slots : List SV} (hp : put S o.dst (wrapG g v) = .ok slots) {σ1 : List D} {ds : List D} {ρ2 : List D} (hpre : pushAll ar.pre ρ = some (ρ ++ σ1))
    (hG : G (evs (ρ ++ σ1) ar.xs) = some ds) (hcount : ds.length = resCount sg.results + sg.keeps.length) (hpost : pushAll post (ρ ++ σ1 ++ ds) = some ρ2) :
    StepOk P X M w0 S μ { n := ρ2.length, slots, heap := hE ++ (resAll sg.results (S.n + ar.pre.length) S.heap.length).2 } o (ar.mas.map MA.β) a w ρ2 := by
  intro K Q hK
  have hpl : σ1.length = ar.pre.length := by
    obtain ⟨σ, e, hl⟩ := pushAll_env hpre
    rw [List.append_cancel_left e]; exact hl
  have hargs0 := argAll_ok (σ := []) h (by simpa [h.len] using h2) hvs hss (by simpa using hpre)
  obtain ⟨hms, b1, b2, b3, b4, b5⟩ := hargs0
  have hlen0 : (ρ ++ σ1).length = S.n + ar.pre.length := by rw [List.length_append, h.len, hpl]
  -- the own blocks of what is handed over
  have hown : ∀ x ∈ hms, ∀ b, x.m.own b → ∃ ma ∈ ar.mas, (μ ma.β).own b := by
    intro x hx b hb
    obtain ⟨i, hi⟩ := List.getElem?_of_mem hx
    obtain ⟨ma, hma, hok⟩ := b1.get hi
    exact ⟨ma, List.mem_of_getElem? hma, hok.own hb⟩
  have hFz : ∀ b, Fz X S.heap μ w b → Fm w hms b := fun b hb => ⟨hb.1.1, fun x hx ho => by
    obtain ⟨ma, h1, h2⟩ := hown x hx b ho
    exact hb.2 ma.β (b2 ma h1).live h2⟩
  have hdis : ∀ β, live S.heap β → β ∉ ar.mas.map MA.β → ∀ b, (μ β).own b → Fm w hms b := fun β hl hn b hb => ⟨h.own_lt hl hb, fun x hx ho => by
    obtain ⟨ma, h1, h2⟩ := hown x hx b ho
    exact h.inj β ma.β hl (b2 ma h1).live (fun e => hn (by rw [e]; exact List.mem_map.2 ⟨ma, h1, rfl⟩)) b hb h2⟩
  have hargs := b5 (Fm w hms) hFz (fun β hβ => hdis β (b4 β hβ) (hrd β hβ)) (fun β cs hcs => hdis β ⟨_, hcs, by simp⟩ (fun hm => by
    obtain ⟨ma, h1, h2⟩ := List.mem_map.1 hm
    obtain ⟨sb, e1, e2, _⟩ := b2 ma h1
    rw [h2, hcs] at e1
    simp only [Option.some.injEq] at e1
    subst e1
    cases hat : ma.at? <;> cases hk : ma.k <;> rw [hat, hk] at e2 <;> exact e2.elim))
  have hmap : MApart (hms.map HM.m) := by
    intro i j m m' hi hj hne b hb hb'
    rw [List.getElem?_map] at hi hj
    obtain ⟨x, hx, rfl⟩ := map_some_eq hi
    obtain ⟨y, hy, rfl⟩ := map_some_eq hj
    obtain ⟨ma, hma, hok⟩ := b1.get hx
    obtain ⟨mb, hmb, hok'⟩ := b1.get hy
    refine h.inj ma.β mb.β (b2 ma (List.mem_of_getElem? hma)).live (b2 mb (List.mem_of_getElem? hmb)).live (fun e => hne ?_) b (hok.own hb) (hok'.own hb')
    exact nodup_map_inj hnd hma hmb e
  have hc := hs.calls vs _ hms w ds hargs hmap hG
  unfold Oper.wp
  rw [ho, hs.enter]
  refine hc.mono fun e w' ⟨u, he, hkeep, us, os, ks, d1, d2, hshape, hds, hres, hkept, hnewown, hapart⟩ => ?_
  subst he hds
  have c : CallOk X M w0 w w' S μ ρ a (ρ ++ σ1) ar.mas hms := ⟨h, ⟨σ1, rfl⟩, b1, b2, hnd, fun b hb hn => hkeep.block b hb (fun ⟨x, hx, ho⟩ => hn x hx ho), hkeep.size⟩
  -- the new own things
  generalize hupd : updMA μ ar.mas ks = upd at *
  obtain ⟨μ', hμold, hμnew⟩ : ∃ μ' : Mu, (∀ β, β < S.heap.length → μ' β = ((upd.find? fun p => p.1 == β).map (·.2)).getD (μ β)) ∧ ∀ (j : Nat) o, os[j]? = some o → μ' (S.heap.length + j) = o :=
    ⟨fun β => if β < S.heap.length then ((upd.find? fun p => p.1 == β).map (·.2)).getD (μ β) else (os[β - S.heap.length]?).getD (MV.one Go.undef), fun β hb => by simp [hb], fun j o hj => by
      show (if _ then _ else _) = _
      rw [if_neg (by omega), show S.heap.length + j - S.heap.length = j from by omega, hj]; rfl⟩
  have hfind : ∀ {β : Nat}, β < S.heap.length → (μ' β = μ β ∧ ∀ p ∈ upd, p.1 ≠ β) ∨ ∃ p ∈ upd, p.1 = β ∧ μ' β = p.2 := by
    intro β hb
    rw [hμold β hb]
    cases hf : upd.find? fun p => p.1 == β with
    | none =>
      left
      refine ⟨by simp, fun p hp e => ?_⟩
      have := List.find?_eq_none.1 hf p hp
      simp [e] at this
    | some p =>
      right
      have h1 := List.find?_some hf
      simp only [beq_iff_eq] at h1
      exact ⟨p, List.mem_of_find?_eq_some hf, h1, by simp⟩
  have hmaLt : ∀ ma ∈ ar.mas, ma.β < S.heap.length := fun ma hm => live_lt (b2 ma hm).live
  have hnl : ∀ (i : Nat) d, (d1 ++ d2)[i]? = some d → (ρ ++ σ1 ++ (d1 ++ d2))[S.n + ar.pre.length + i]? = some d := fun i d hi => by
    rw [List.getElem?_append_right (by omega), hlen0, show S.n + ar.pre.length + i - (S.n + ar.pre.length) = i from by omega]; exact hi
  obtain ⟨σ3, hρ2, _⟩ := pushAll_env hpost
  have hext2 : ∀ {i : Nat} {d : D}, (ρ ++ σ1 ++ (d1 ++ d2))[i]? = some d → ρ2[i]? = some d := by
    intro i d hi
    rw [hρ2, List.getElem?_append_left (List.getElem?_eq_some_iff.1 hi).1]; exact hi
  have hd1len : d1.length = resCount sg.results := (resAll_ok (F' := fun _ => True) (hl' := S.heap.length + os.length) (μ' := μ') (ρ' := ρ ++ σ1 ++ (d1 ++ d2)) (Mine := fun _ => True) (n := S.n + ar.pre.length) (h := S.heap.length) hres
    (fun i d hi => hnl i d (by rw [List.getElem?_append_left (List.getElem?_eq_some_iff.1 hi).1]; exact hi)) hμnew (Nat.le_refl _) (fun _ _ _ _ => trivial)).2.2.1
  have hblen : (resAll sg.results (S.n + ar.pre.length) S.heap.length).2.length = os.length := (resAll_ok (F' := fun _ => True) (hl' := S.heap.length + os.length) (μ' := μ') (ρ' := ρ ++ σ1 ++ (d1 ++ d2)) (Mine := fun _ => True) (n := S.n + ar.pre.length) (h := S.heap.length) hres
    (fun i d hi => hnl i d (by rw [List.getElem?_append_left (List.getElem?_eq_some_iff.1 hi).1]; exact hi)) hμnew (Nat.le_refl _) (fun _ _ _ _ => trivial)).2.1
  have hfromT : ∀ b, (∃ x ∈ hms, x.m.own b) → ∃ γ, γ ∈ ar.mas.map MA.β ∧ (μ γ).own b := fun b ⟨x, hx, hb⟩ => by
    obtain ⟨ma, h1, h2⟩ := hown x hx b hb
    exact ⟨ma.β, List.mem_map.2 ⟨ma, h1, rfl⟩, h2⟩
  have hMine : ∀ β sb, S.heap[β]? = some sb → mineB sb = true → ∀ b, (μ β).own b → (w0.heap.size ≤ b ∨ M b) := fun β sb h1 h2 b hb => h.mine h1 h2 hb
  have hmineNew : ∀ u ∈ os ++ ks, ∀ b, u.own b → (w0.heap.size ≤ b ∨ M b) := fun u hu b hb => by
    rcases hnewown u hu b hb with h1 | h1
    · exact .inl (Nat.le_trans h.keeps.size h1)
    · obtain ⟨x, hx, hxb⟩ := h1
      obtain ⟨ma, h3, h4⟩ := hown x hx b hxb
      obtain ⟨sb, e1, e2, _⟩ := b2 ma h3
      exact hMine ma.β sb e1 (fit_mine e2) b h4
  have hEs := fun (F' : Nat → Prop) (hl' : Nat) => afterMA_ok (F' := F') (hl' := hl') (μ' := μ') (Mine := fun b => w0.heap.size ≤ b ∨ M b) c hMine (mas := ar.mas) (hs := hms) (off := 0) (ρ1 := ρ ++ σ1 ++ (d1 ++ d2)) (ρ2 := ρ2) (ks := ks) (ds2 := d2)
    (fun i ma hi => by simpa using hi) (fun i x hi => by simpa using hi) b1.length haft (fun _ _ => rfl) hkept
    (fun j d hj => by
      have := hnl (d1.length + j) d (by rw [List.getElem?_append_right (by omega)]; simpa using hj)
      rw [← hd1len, Nat.add_assoc]; exact this)
    ⟨d1 ++ d2, rfl⟩ (by rw [List.length_append, hlen0, hcount]) hpost (fun k hk b hb => hmineNew k (by simp [hk]) b hb)
  have hE0 := hEs (fun _ => True) 0
  rw [hupd] at hE0
  obtain ⟨e1, e2, e3, e4, _⟩ := hE0
  -- which live old blocks the call turned
  have hturn : ∀ {β : Nat}, live (hE ++ (resAll sg.results (S.n + ar.pre.length) S.heap.length).2) β → β ∈ ar.mas.map MA.β → ∃ p ∈ upd, p.1 = β ∧ μ' β = p.2 := by
    intro β hl hm
    obtain ⟨ma, h1, h2⟩ := List.mem_map.1 hm
    have hlt := hmaLt ma h1
    rw [h2] at hlt
    cases hkp : ma.keep with
    | false =>
      obtain ⟨sb, hsb, hd⟩ := hl
      rw [List.getElem?_append_left (by rw [e1]; exact hlt), ← h2, e3 ma h1 hkp] at hsb
      simp only [Option.some.injEq] at hsb
      exact absurd hsb.symm hd
    | true =>
      obtain ⟨m, hm'⟩ := e4 ma h1 hkp
      rcases hfind hlt with ⟨_, h5⟩ | h5
      · exact absurd h2 (h5 _ hm')
      · exact h5
  have hnewat : ∀ {β : Nat}, live (hE ++ (resAll sg.results (S.n + ar.pre.length) S.heap.length).2) β → S.heap.length ≤ β → ∃ o, os[β - S.heap.length]? = some o ∧ μ' β = o := by
    intro β hl hge
    have hlt := live_lt hl
    rw [List.length_append, e1, hblen] at hlt
    have hj : β - S.heap.length < os.length := by omega
    refine ⟨_, List.getElem?_eq_getElem hj, ?_⟩
    have := hμnew _ _ (List.getElem?_eq_getElem hj)
    rw [show S.heap.length + (β - S.heap.length) = β from by omega] at this
    exact this
  have hkeptOf : ∀ {p : Nat × MV}, p ∈ upd → ∃ (i : Nat) (ma : MA) (x : HM) (j : Nat) (k : MV), ar.mas[i]? = some ma ∧ hms[i]? = some x ∧ ma.β = p.1 ∧ ks[j]? = some k ∧ (ma.keep = true ∧ j = cntK ar.mas i) ∧
        ∀ b, p.2.own b → k.own b ∨ (ma.at? ≠ none ∧ (μ p.1).own b ∧ ¬ x.m.own b) := by
    intro p hp'
    rw [← hupd] at hp'
    exact updMA_kept c (mas := ar.mas) (hs := hms) (off := 0) (fun i ma hi => by simpa using hi) (fun i x hi => by simpa using hi) b1.length hkept hp'
  have hupdMem : ∀ {p : Nat × MV}, p ∈ upd → p.1 ∈ ar.mas.map MA.β ∧ p.2.v = (μ p.1).v ∧ ∃ ext, p.2.hist = (μ p.1).hist ++ ext := by
    intro p hp'
    rw [← hupd] at hp'
    obtain ⟨⟨ma, h1, h2, _⟩, h3, h4, _⟩ := updMA_mem hp'
    exact ⟨List.mem_map.2 ⟨ma, h1, h2⟩, h3, h4⟩
  have m : Move S μ w (ar.mas.map MA.β) (hE ++ (resAll sg.results (S.n + ar.pre.length) S.heap.length).2) μ' w' := by
    refine ⟨fun γ hγ => ?_, by simp [e1], fun β hβ hn => ⟨?_, ?_⟩, fun β hβ => ?_, hkeep.os, hkeep.tape, hkeep.output, hkeep.size, fun b hb hn => ?_, fun β hl ht b hb => ?_, fun β γ hβ hγ tβ tγ hne b hb hb' => ?_⟩
    · obtain ⟨ma, h1, h2⟩ := List.mem_map.1 hγ
      obtain ⟨sb, g1, g2, _⟩ := b2 ma h1
      exact ⟨sb, by rw [← h2]; exact g1, fit_mine g2⟩
    · rw [List.getElem?_append_left (by rw [e1]; exact hβ), e2 β hn]
    · rcases hfind hβ with ⟨h5, _⟩ | ⟨p, h5, h6, _⟩
      · exact h5
      · exact absurd (by rw [← h6]; exact (hupdMem h5).1) hn
    · rcases hfind hβ with ⟨h5, _⟩ | ⟨p, h5, h6, h7⟩
      · rw [h5]; exact ⟨rfl, [], by simp⟩
      · rw [h7, ← h6]; exact (hupdMem h5).2
    · refine hkeep.block b hb fun ⟨x, hx, ho⟩ => ?_
      obtain ⟨γ, h5, h6⟩ := hfromT b ⟨x, hx, ho⟩
      exact hn γ h5 h6
    · rcases ht with ht | ht
      · obtain ⟨p, h5, h6, h7⟩ := hturn hl ht
        rw [h7] at hb
        obtain ⟨i, ma, x, j, k, g1, g2, g3, g4, g5, g6⟩ := hkeptOf h5
        rcases g6 b hb with h8 | ⟨_, h8, _⟩
        · rcases hnewown k (by simp [List.mem_of_getElem? g4]) b h8 with h9 | h9
          · exact .inl h9
          · exact .inr (hfromT b h9)
        · exact .inr ⟨p.1, (hupdMem h5).1, h8⟩
      · obtain ⟨o, h5, h6⟩ := hnewat hl ht
        rw [h6] at hb
        rcases hnewown o (by simp [List.mem_of_getElem? h5]) b hb with h9 | h9
        · exact .inl h9
        · exact .inr (hfromT b h9)
    · -- no block belongs to two
      have ofT : ∀ {β : Nat}, live (hE ++ (resAll sg.results (S.n + ar.pre.length) S.heap.length).2) β → (β ∈ ar.mas.map MA.β ∨ S.heap.length ≤ β) → ∀ b, (μ' β).own b →
          (∃ (q : Nat) (z : MV), (os ++ ks)[q]? = some z ∧ z.own b ∧ ((S.heap.length ≤ β ∧ q = β - S.heap.length ∧ q < os.length) ∨ (β < S.heap.length ∧ ∃ j, q = os.length + j ∧ ∃ (i : Nat) (ma : MA) (x : HM), ar.mas[i]? = some ma ∧ hms[i]? = some x ∧ ma.β = β ∧ ks[j]? = some z ∧ (ma.keep = true ∧ j = cntK ar.mas i)))) ∨
          (∃ (i : Nat) (ma : MA) (x : HM) (j : Nat) (k : MV), ar.mas[i]? = some ma ∧ hms[i]? = some x ∧ ma.β = β ∧ (μ β).own b ∧ ¬ x.m.own b) := by
        intro β hl ht b hb
        rcases ht with ht | ht
        · obtain ⟨p, h5, h6, h7⟩ := hturn hl ht
          rw [h7] at hb
          obtain ⟨i, ma, x, j, k, g1, g2, g3, g4, g5, g6⟩ := hkeptOf h5
          have hlt : β < S.heap.length := by rw [← h6, ← g3]; exact hmaLt ma (List.mem_of_getElem? g1)
          rcases g6 b hb with h8 | ⟨_, h8, h9⟩
          · exact .inl ⟨os.length + j, k, by rw [List.getElem?_append_right (by omega)]; simpa using g4, h8, .inr ⟨hlt, j, rfl, i, ma, x, g1, g2, g3.trans h6, g4, g5⟩⟩
          · exact .inr ⟨i, ma, x, j, k, g1, g2, g3.trans h6, by rw [← h6]; exact h8, h9⟩
        · obtain ⟨o, h5, h6⟩ := hnewat hl ht
          rw [h6] at hb
          have hj := (List.getElem?_eq_some_iff.1 h5).1
          exact .inl ⟨β - S.heap.length, o, by rw [List.getElem?_append_left hj]; exact h5, hb, .inl ⟨ht, rfl, hj⟩⟩
      have key : ∀ {β γ : Nat}, β ≠ γ → (∃ (q : Nat) (z : MV), (os ++ ks)[q]? = some z ∧ z.own b ∧ ((S.heap.length ≤ γ ∧ q = γ - S.heap.length ∧ q < os.length) ∨ (γ < S.heap.length ∧ ∃ j, q = os.length + j ∧ ∃ (i : Nat) (ma : MA) (x : HM), ar.mas[i]? = some ma ∧ hms[i]? = some x ∧ ma.β = γ ∧ ks[j]? = some z ∧ (ma.keep = true ∧ j = cntK ar.mas i)))) →
          (∃ (i : Nat) (ma : MA) (x : HM) (j : Nat) (k : MV), ar.mas[i]? = some ma ∧ hms[i]? = some x ∧ ma.β = β ∧ (μ β).own b ∧ ¬ x.m.own b) → False := by
        intro β γ hne ⟨q, z, hz, hzb, _⟩ ⟨i, ma, x, j, k, g1, g2, g3, g4, g5⟩
        have hl : live S.heap ma.β := (b2 ma (List.mem_of_getElem? g1)).live
        rw [← g3] at g4
        rcases hnewown z (List.mem_of_getElem? hz) b hzb with h9 | ⟨y, hy, hyb⟩
        · have := h.own_lt hl g4; omega
        · have := c.whose g1 hy hyb g4
          rw [g2] at this
          simp only [Option.some.injEq] at this
          subst this
          exact g5 hyb
      rcases ofT hβ tβ b hb with A | B
      · rcases ofT hγ tγ b hb' with A' | B'
        · obtain ⟨q, z, hz, hzb, hq⟩ := A
          obtain ⟨q', z', hz', hzb', hq'⟩ := A'
          by_cases hqq : q = q'
          · subst hqq
            rcases hq with ⟨p1, p2, p3⟩ | ⟨p1, j, p2, i, ma, x, p3, p4, p5, p6, p7⟩
            · rcases hq' with ⟨r1, r2, r3⟩ | ⟨r1, j', r2, _⟩
              · exact hne (by omega)
              · omega
            · rcases hq' with ⟨r1, r2, r3⟩ | ⟨r1, j', r2, i', ma', x', r3, r4, r5, r6, r7⟩
              · omega
              · -- the same thing handed back for two
                refine hne ?_
                rw [← p5, ← r5]
                have := cntK_inj p3 r3 p7.1 r7.1 (by rw [← p7.2, ← r7.2]; omega)
                subst this
                rw [p3] at r3
                simp only [Option.some.injEq] at r3
                rw [r3]
          · exact hapart q q' z z' hz hz' hqq b hzb hzb'
        · exact key hne.symm A B'
      · rcases ofT hγ tγ b hb' with A' | B'
        · exact key hne A' B
        · obtain ⟨i, ma, x, j, k, g1, g2, g3, g4, g5⟩ := B
          obtain ⟨i', ma', x', j', k', g1', g2', g3', g4', g5'⟩ := B'
          exact h.inj β γ (by rw [← g3]; exact (b2 ma (List.mem_of_getElem? g1)).live) (by rw [← g3']; exact (b2 ma' (List.mem_of_getElem? g1')).live) hne b g4 g4'
  -- the state behind the call
  have hlen2 : ρ2.length = (ρ ++ σ1 ++ (d1 ++ d2) ++ σ3).length := by rw [hρ2]
  obtain ⟨τ, hτ⟩ : ∃ τ, ρ2 = ρ ++ τ := ⟨σ1 ++ (d1 ++ d2) ++ σ3, by rw [hρ2]; simp⟩
  have hR1 := R_env h τ
  rw [← hτ] at hR1
  have hn2 : S.n + τ.length = ρ2.length := by rw [hτ, List.length_append, h.len]
  rw [hn2] at hR1
  have m1 : Move { S with n := ρ2.length } μ w (ar.mas.map MA.β) (hE ++ (resAll sg.results (S.n + ar.pre.length) S.heap.length).2) μ' w' := ⟨m.tlive, m.len, m.same, m.mu, m.os, m.tape, m.output, m.size, m.blk, m.own, m.inj⟩
  generalize hheap : hE ++ (resAll sg.results (S.n + ar.pre.length) S.heap.length).2 = heap' at *
  have hl' : heap'.length = S.heap.length + (resAll sg.results (S.n + ar.pre.length) S.heap.length).2.length := by rw [← hheap, List.length_append, e1]
  obtain ⟨r1, r2, _, r3⟩ := resAll_ok (F' := Fz X heap' μ' w') (hl' := heap'.length) (μ' := μ') (ρ' := ρ2) (Mine := fun b => w0.heap.size ≤ b ∨ M b) (n := S.n + ar.pre.length) (h := S.heap.length) hres
    (fun i d hi => hext2 (hnl i d (by rw [List.getElem?_append_left (List.getElem?_eq_some_iff.1 hi).1]; exact hi))) hμnew (by rw [hl', hblen]; exact Nat.le_refl _) (fun u hu b hb => hmineNew u (by simp [hu]) b hb)
  have hR2 := R_move hR1 m1 (fun _ β sb hb ht => by
    rcases Nat.lt_or_ge β S.heap.length with hlt | hge
    · have hβ : β ∈ ar.mas.map MA.β := by
        rcases ht with ht | ht
        · exact ht
        · exact absurd ht (by simpa using hlt)
      by_cases hd : sb = .dead
      · subst hd; trivial
      · obtain ⟨p, h5, h6, h7⟩ := hturn ⟨sb, hb, hd⟩ hβ
        have hE1 := hEs (Fz X heap' μ' w') heap'.length
        rw [hupd] at hE1
        obtain ⟨_, _, _, _, e5⟩ := hE1
        obtain ⟨sb', g1, g2⟩ := e5 p h5
        rw [h6] at g1
        rw [← hheap, List.getElem?_append_left (by rw [e1]; exact hlt), g1] at hb
        simp only [Option.some.injEq] at hb
        subst hb
        rw [h7]
        exact g2
    · rw [← hheap, List.getElem?_append_right (by rw [e1]; exact hge), e1] at hb
      have := r3 _ sb hb
      rw [show S.heap.length + (β - S.heap.length) = β from by omega] at this
      exact this)
  have hR3 := R_put (dst := o.dst) (v := wrapG g v) (u := u) (slots := slots) hR2 (by exact hp) (by
    have hgg' : ∀ x want, g = some (x, want) → x.get ρ2 ≠ none := fun x want e => by
      have := hgg x want e
      cases hx : x.get ρ with
      | none => exact absurd hx this
      | some d => rw [hτ, Atom.get_append hx]; simp
    refine wrapG_ok hgg' (by rw [hτ, guard_append hgg]; exact hg) ?_
    unfold resSV at hv
    have hrl := resAll_length sg.results (S.n + ar.pre.length) S.heap.length
    split at hv
    · rename_i ag cs e
      rw [e] at hrl r1
      have hrl1 : sg.results.length = 1 := hrl.symm
      rw [if_pos hrl1] at hshape
      subst hshape
      have hPV := r1.1
      unfold mkSV at hv
      cases ag with
      | true => simp only [if_true, Option.some.injEq] at hv; subst hv; exact hPV
      | false =>
        obtain ⟨c', rfl, hc'⟩ := hPV
        simp only [Bool.false_eq_true, if_false, Option.some.injEq] at hv
        subst hv
        exact hc'
    · rename_i hne
      have hrl2 : sg.results.length ≠ 1 := by
        intro e
        rw [e] at hrl
        obtain ⟨⟨ag, cs⟩, hq⟩ := List.length_eq_one_iff.1 hrl
        exact hne ag cs hq
      rw [if_neg hrl2] at hshape
      simp only [Option.some.injEq] at hv
      subst hv hshape
      exact ⟨_, rfl, by simpa using r1⟩)
  exact hK _ _ _ hR3 ⟨⟨u, rfl⟩, m⟩

end
end Vs

namespace Vs
open Go Go.RowKit

section
variable {P : Program} {X : Nat → Prop} {M : Hand} {w0 w w' : World} {S : SS} {μ μ' : Mu} {ρ : List D} {a : Act}

structure ElemOk (P : Program) (e : TypeId) (et : ET) (i : TypeInfo) (z : Value) : Prop where
  info : P.info? e = some i
  ety : etOf P e = some et
  size : i.size = et.cells.length
  pos : 0 < i.size
  few : i.size ≤ 64
  bytes : i.bytes ≤ 64
  zero : i.zero = some z
  zs : z.cells.size = i.size

theorem elemOk_ok {e : TypeId} {et : ET} (h : elemOk P e et = true) : ∃ i z, ElemOk P e et i z := by
  unfold elemOk at h
  split at h
  · rename_i i hi
    simp only [Bool.and_eq_true, decide_eq_true_eq] at h
    obtain ⟨⟨⟨⟨h1, h2⟩, h3⟩, h4⟩, h5⟩ := h
    split at h5
    · rename_i z hz
      exact ⟨i, z, hi, h1, h2, h3.1, h3.2, h4, hz, by simpa using h5⟩
    · cases h5
  · cases h

structure ElemSl (P : Program) (e : TypeId) (et : ET) (e' : TypeId) (i : TypeInfo) : Prop where
  info : P.info? e = some i
  und : P.underlying e = some (.slice e')
  size : i.size = 1
  bytes : i.bytes ≤ 64
  zero : i.zero = some (.slice none 0 0)
  el : elemOk P e' et = true

theorem elemSl_ok {e e' : TypeId} {et : ET} (h : elemSl P e et e' = true) : ∃ i, ElemSl P e et e' i := by
  unfold elemSl at h
  split at h
  · rename_i i hi
    simp only [Bool.and_eq_true, decide_eq_true_eq] at h
    obtain ⟨⟨⟨⟨h1, h2⟩, h3⟩, h4⟩, h5⟩ := h
    refine ⟨i, hi, ?_, h2, h3, ?_, h5⟩
    · split at h1
      · rename_i x hx; simp only [beq_iff_eq] at h1; rw [hx, h1]
      · cases h1
    · split at h4
      · assumption
      · cases h4
  · cases h

theorem mkOf_ok {t : TypeId} {k : MK} (h : mkOf P t = some k) : (∃ et e, k = .row (.s1 et) e ∧ P.underlying t = some (.slice e) ∧ elemOk P e et = true) ∨ (∃ et e' e, k = .rows et e' e ∧ P.underlying t = some (.slice e) ∧ elemSl P e et e' = true) := by
  unfold mkOf at h
  split at h
  · rename_i e he
    split at h
    · split at h
      · split at h
        · rename_i hs; simp only [Option.some.injEq] at h; exact .inr ⟨_, _, _, h.symm, he, hs⟩
        · cases h
      · cases h
    · split at h
      · split at h
        · rename_i hs; simp only [Option.some.injEq] at h; exact .inl ⟨_, _, h.symm, he, hs⟩
        · cases h
      · cases h
  · cases h

/-! ### Elements -/
theorem cellAtoms0_ok {F : Nat → Prop} {hl : Nat} : ∀ {ts : List BT} {cs : List CV} {xs : List Atom} {vs : List Value}, elemPush.cellAtoms0 ts cs = .ok xs → CVRs w F hl μ ρ cs vs →
    cs.all plainCV = true ∧ (∀ x ∈ xs, x.get ρ ≠ none) ∧ RdCs RdB ts vs (evs ρ xs)
  | [], [], xs, [], h, _ => by simp only [elemPush.cellAtoms0, Except.ok.injEq] at h; subst h; exact ⟨rfl, by simp, trivial⟩
  | t :: ts, c :: cs, xs, v :: vs, h, ⟨h1, h2⟩ => by
    unfold elemPush.cellAtoms0 at h
    split at h
    · rename_i heq _; cases heq
    · rename_i t0 ts0 t' x cs0 heq heq2
      simp only [List.cons.injEq] at heq heq2
      obtain ⟨rfl, rfl⟩ := heq
      obtain ⟨rfl, rfl⟩ := heq2
      split at h
      · rename_i ht
        subst ht
        obtain ⟨ys, g1, g2⟩ := bind_ok h
        simp only [Except.ok.injEq] at g2
        subst g2
        obtain ⟨i1, i2, i3⟩ := cellAtoms0_ok g1 h2
        obtain ⟨d, hx, hd⟩ := h1
        refine ⟨by simp [plainCV, i1], fun y hy => ?_, ?_⟩
        · rcases List.mem_cons.1 hy with rfl | hy
          · rw [hx]; simp
          · exact i2 y hy
        · refine ⟨?_, i3⟩
          show RdB t v (x.ev ρ)
          rw [Atom.ev_of_get hx]
          exact hd
      · cases h
    · cases h
  | [], _ :: _, _, _, h, _ => by simp [elemPush.cellAtoms0] at h
  | _ :: _, [], _, _, h, _ => by simp [elemPush.cellAtoms0] at h

theorem elemPush_ok {F : Nat → Prop} {hl : Nat} {et : ET} {cs : List CV} {x : Atom} {ps : List Push} {vs : List Value} {σ ρ' : List D} (h : elemPush (ρ ++ σ).length et cs = .ok (x, ps)) (hc : CVRs w F hl μ ρ cs vs) (hp : pushAll ps (ρ ++ σ) = some ρ') :
    cs.all plainCV = true ∧ ∃ l, RdCs RdB et.cells vs l ∧ x.get ρ' = some (unflat et.agg l) := by
  unfold elemPush at h
  obtain ⟨xs, g1, g2⟩ := bind_ok h
  obtain ⟨i1, i2, i3⟩ := cellAtoms0_ok g1 hc
  refine ⟨i1, evs ρ xs, i3, ?_⟩
  split at g2
  · rename_i ha
    simp only [Except.ok.injEq, Prod.mk.injEq] at g2
    obtain ⟨rfl, rfl⟩ := g2
    obtain ⟨d, hd, rfl⟩ := pushAll_one hp
    rw [evs_app i2] at hd
    simp only [Prim.ev, Option.some.injEq] at hd
    subst hd
    rw [get_new rfl]
    simp [unflat, ha]
  · rename_i ha
    split at g2
    · rename_i y
      simp only [Except.ok.injEq, Prod.mk.injEq] at g2
      obtain ⟨rfl, rfl⟩ := g2
      simp only [pushAll, Option.some.injEq] at hp
      subst hp
      cases e : y.get ρ with
      | none => exact absurd e (i2 y (by simp))
      | some d => rw [Atom.get_append e]; simp [unflat, ha, evs, Atom.ev_of_get e]
    · cases g2

theorem elemsPush_ok {F : Nat → Prop} {hl : Nat} {et : ET} : ∀ {ss : List SV} {us : List Value} {σ : List D} {xs : List Atom} {ps : List Push} {ρ' : List D}, elemsPush et (ρ ++ σ).length ss = .ok (xs, ps) → ss.length = us.length →
    (∀ (j : Nat) s u, ss[j]? = some s → us[j]? = some u → SVR w F hl μ ρ s u) → pushAll ps (ρ ++ σ) = some ρ' →
    (∀ x ∈ xs, x.get ρ' ≠ none) ∧ (∀ u ∈ us, u.cells.size = et.cells.length) ∧ ∃ ls, evs ρ' xs = ls.map (unflat et.agg) ∧ ls.length = us.length ∧ RdRow RdB et.cells (us.flatMap fun v => v.cells.toList) ls
  | [], [], σ, xs, ps, ρ', h, _, _, hp => by
    simp only [elemsPush, Except.ok.injEq, Prod.mk.injEq] at h
    obtain ⟨rfl, rfl⟩ := h
    exact ⟨by simp, by simp, [], rfl, rfl, rfl⟩
  | s :: ss, u :: us, σ, xs, ps, ρ', h, hl', hs, hp => by
    simp only [elemsPush] at h
    split at h
    · rename_i ag cs hcs
      split at h
      · rename_i hag
        obtain ⟨⟨x, p⟩, g1, h⟩ := bind_ok h
        dsimp only at h
        obtain ⟨⟨ys, q⟩, g2, h⟩ := bind_ok h
        simp only [Except.ok.injEq, Prod.mk.injEq] at h
        obtain ⟨rfl, rfl⟩ := h
        obtain ⟨σ1, q1, q2, q3⟩ := push_split hp
        have e : (ρ ++ σ).length + p.length = (ρ ++ (σ ++ σ1)).length := by simp [q2]; omega
        rw [e] at g2
        rw [List.append_assoc] at q3
        obtain ⟨σ2, rfl, _⟩ := pushAll_env q3
        have hu := hs 0 s u rfl rfl
        obtain ⟨cl, hcells⟩ : ∃ cl, elemPush.cellAtoms0 et.cells cs = .ok cl := by
          unfold elemPush at g1
          obtain ⟨xs, k1, _⟩ := bind_ok g1
          exact ⟨xs, k1⟩
        have hplain : cs.all plainCV = true := by
          have : ∀ {ts : List BT} {cs : List CV} {xs : List Atom}, elemPush.cellAtoms0 ts cs = .ok xs → cs.all plainCV = true := by
            intro ts
            induction ts with
            | nil => intro cs xs h; cases cs with
              | nil => rfl
              | cons c cs => simp [elemPush.cellAtoms0] at h
            | cons t ts ih =>
              intro cs xs h
              cases cs with
              | nil => simp [elemPush.cellAtoms0] at h
              | cons c cs =>
                unfold elemPush.cellAtoms0 at h
                split at h
                · rename_i heq _; cases heq
                · rename_i heq heq2
                  simp only [List.cons.injEq] at heq heq2
                  obtain ⟨rfl, rfl⟩ := heq
                  obtain ⟨rfl, rfl⟩ := heq2
                  split at h
                  · obtain ⟨ys, g1, _⟩ := bind_ok h
                    simp [plainCV, ih g1]
                  · cases h
                · cases h
          exact this hcells
        have hC := svCells_ok hcs hplain hu
        obtain ⟨_, l, hl1, hl2⟩ := elemPush_ok g1 hC q1
        obtain ⟨i1, i2, ls, i3, i4, i5⟩ := elemsPush_ok g2 (by simpa using hl') (fun j s u h1 h2 => hs (j + 1) s u (by simpa using h1) (by simpa using h2)) q3
        have hxg : x.get (ρ ++ (σ ++ σ1) ++ σ2) = some (unflat et.agg l) := by
          have := Atom.get_append (σ := σ2) hl2
          simpa using this
        refine ⟨fun y hy => ?_, fun v hv => ?_, l :: ls, ?_, by simp [i4], ?_⟩
        · rcases List.mem_cons.1 hy with rfl | hy
          · rw [hxg]; simp
          · exact i1 y hy
        · rcases List.mem_cons.1 hv with rfl | hv
          · have := hl1.length.1; simpa using this
          · exact i2 v hv
        · have e2 : evs (ρ ++ (σ ++ σ1) ++ σ2) (x :: ys) = x.ev (ρ ++ (σ ++ σ1) ++ σ2) :: evs (ρ ++ (σ ++ σ1) ++ σ2) ys := rfl
          rw [e2, i3, Atom.ev_of_get hxg]
          rfl
        · exact ⟨_, _, by simp, hl1, i5⟩
      · cases h
    · cases h
  | [], _ :: _, _, _, _, _, _, hl, _, _ => by simp at hl
  | _ :: _, [], _, _, _, _, _, hl, _, _ => by simp at hl

/-! ### A new own block -/
/-- A new own row of new memory. -/
theorem fresh_row {o : Oper} {σ : List D} {et : ET} {e : TypeId} {x : Atom} {u : Value} {n : Nat} {xs : List Value} {ls : List (List D)} (hR : R X M w0 S μ ρ a w) (hr : (execOp a.eval o).run P w = .ok (.value u) w')
    (h1 : w'.os = w.os) (h2 : w'.tape = w.tape) (h3 : w'.output = w.output) (hsz : w.heap.size ≤ w'.heap.size) (hblk : ∀ b, b < w.heap.size → w'.heap[b]? = w.heap[b]?) (hfr : ∀ b, blkOf u = some b → w.heap.size ≤ b)
    (hown : w'.ownsRow 0 e et.cells.length u n xs) (hn : ls.length = n) (hrd : RdRow RdB et.cells xs ls) (hx : x.get (ρ ++ σ) = some (.lst (ls.map (unflat et.agg)))) :
    HopOk P X M w0 S μ o a w (ρ ++ σ) (.c (.s (.own S.heap.length))) (S.heap ++ [.row (.s1 et) e x]) [] := by
  have m : Move S μ w [] (S.heap ++ [.row (.s1 et) e x]) (fun β => if β < S.heap.length then μ β else MV.one u) w' :=
    Move.fresh (by simp) rfl (fun _ _ => rfl) (by simp) h1 h2 h3 hsz (fun b hb _ => hblk b hb) (fun b hb => by
      rcases hb with hb | ⟨u, hu, _⟩
      · exact .inl (hfr b hb)
      · simp [MV.one, MV.inner] at hu)
  refine ⟨_, _, _, _, hr, .inl rfl, m, fun β sb hb h => ?_, ?_⟩
  · have hge : S.heap.length ≤ β := by
      rcases h with h | h
      · simp at h
      · exact h
    rw [List.getElem?_append_right hge] at hb
    have hβ : β = S.heap.length := by
      have := (List.getElem?_eq_some_iff.1 hb).1
      simp at this; omega
    subst hβ
    simp only [Nat.sub_self, List.getElem?_cons_zero, Option.some.injEq] at hb
    subst hb
    simp only [Nat.lt_irrefl, if_false]
    refine ⟨rfl, n, xs, ls, hown, fun b hb => .inl (Nat.le_trans hR.keeps.size (hfr b ((MV.own_flat rfl).1 hb))), hx, hn, hrd⟩
  · obtain ⟨ad, cap, e'⟩ := ownsRow_slice hown
    exact ⟨by simp, by simp [MV.one], ad, n, cap, by simp [MV.one, e']⟩

theorem alloc_old {o : Obj} {b : Nat} (hb : b < w.heap.size) : (w.alloc o).heap[b]? = w.heap[b]? := by
  rw [show (w.alloc o).heap = w.heap.push o from rfl, Array.getElem?_push, if_neg (by omega)]

/-- Own rows, one by one. -/
theorem ownRows_ok (hR : R X M w0 S μ ρ a w) {et : ET} {e' : TypeId} : ∀ {ss : List SV} {bs : List Nat} {xs : List Atom} {us : List Value}, ownRows S et e' ss = .ok (bs, xs) → ss.length = us.length →
    (∀ (j : Nat) s u, ss[j]? = some s → us[j]? = some u → SVR w (Fz X S.heap μ w) S.heap.length μ ρ s u) →
    (∀ β ∈ bs, ∃ sb, S.heap[β]? = some sb ∧ mineB sb = true) ∧ bs.length = us.length ∧ (∀ (j : Nat) u, us[j]? = some u → ∃ β, bs[j]? = some β ∧ (u = (μ β).v ∧ (μ β).hist = []) ∧ ∃ a len cap, u = .slice a len cap) ∧
      ∃ ls : List (List (List D)), evs ρ xs = ls.map (fun l => D.lst (l.map (unflat et.agg))) ∧ ls.length = us.length ∧ RowsD w et e' us ls
  | [], bs, xs, [], h, _, _ => by
    simp only [ownRows, Except.ok.injEq, Prod.mk.injEq] at h
    obtain ⟨rfl, rfl⟩ := h
    exact ⟨by simp, rfl, by simp, [], rfl, rfl, rfl, by simp⟩
  | s :: ss, bs, xs, u :: us, h, hl, hs => by
    unfold ownRows at h
    split at h
    · rename_i heq; cases heq
    · rename_i β vs heq
      simp only [List.cons.injEq] at heq
      obtain ⟨rfl, rfl⟩ := heq
      split at h
      · rename_i t e x hb
        split at h
        · rename_i ht
          obtain ⟨rfl, rfl⟩ := ht
          obtain ⟨⟨bs', xs'⟩, g1, g2⟩ := bind_ok h
          simp only [Except.ok.injEq, Prod.mk.injEq] at g2
          obtain ⟨rfl, rfl⟩ := g2
          obtain ⟨i1, i2, i3, ls, i4, i5, i6⟩ := ownRows_ok hR g1 (us := us) (by simpa using hl) (fun j s u h1 h2 => hs (j + 1) s u (by simpa using h1) (by simpa using h2))
          obtain ⟨_, rfl, hsl⟩ := hs 0 _ u rfl rfl
          obtain ⟨h0, n, ys, l, k1, k2, k3, k4, k5⟩ := hR.blocks β _ hb
          refine ⟨fun γ hγ => ?_, by simp [i2], fun j u hj => ?_, l :: ls, ?_, by simp [i5], by simpa using i6.1, fun j u' l' hj hl' => ?_⟩
          · rcases List.mem_cons.1 hγ with rfl | hγ
            · exact ⟨_, hb, rfl⟩
            · exact i1 γ hγ
          · cases j with
            | zero => simp only [List.getElem?_cons_zero, Option.some.injEq] at hj; subst hj; exact ⟨β, rfl, ⟨rfl, h0⟩, hsl⟩
            | succ j => simp only [List.getElem?_cons_succ] at hj ⊢; exact i3 j u hj
          · show x.ev ρ :: evs ρ xs' = _
            rw [i4, Atom.ev_of_get k3]; rfl
          · cases j with
            | zero =>
              simp only [List.getElem?_cons_zero, Option.some.injEq] at hj hl'
              subst hj hl'
              exact ⟨n, ys, k1, k4, k5⟩
            | succ j => simp only [List.getElem?_cons_succ] at hj hl'; exact i6.2 j u' l' hj hl'
        · cases h
      · cases h
    · cases h
  | [], _, _, _ :: _, _, hl, _ => by simp at hl
  | _ :: _, _, _, [], _, hl, _ => by simp at hl

theorem killAll_get : ∀ {bs : List Nat} {h : List SB}, (killAll h bs).length = h.length ∧ (∀ β, β ∉ bs → (killAll h bs)[β]? = h[β]?) ∧ (∀ β, β ∈ bs → β < h.length → (killAll h bs)[β]? = some .dead)
  | [], h => ⟨rfl, fun _ _ => rfl, by simp⟩
  | b :: bs, h => by
    obtain ⟨i1, i2, i3⟩ := killAll_get (bs := bs) (h := h.set b .dead)
    refine ⟨by simp [killAll] at i1 ⊢; exact i1, fun β hβ => ?_, fun β hβ hlt => ?_⟩
    · simp only [List.mem_cons, not_or] at hβ
      have := i2 β hβ.2
      rw [List.getElem?_set_ne (fun e => hβ.1 e.symm)] at this
      exact this
    · by_cases hm : β ∈ bs
      · exact i3 β hm (by simpa using hlt)
      · have := i2 β hm
        rcases List.mem_cons.1 hβ with rfl | h'
        · rw [List.getElem?_set_self hlt] at this; exact this
        · exact absurd h' hm

/-- New own rows out of own rows (or out of nothing). -/
theorem fresh_rows {o : Oper} {σ : List D} {et : ET} {e' e : TypeId} {x : Atom} {u : Value} {n : Nat} {us : List Value} {ls : List (List (List D))} {bs : List Nat} (hR : R X M w0 S μ ρ a w) (hr : (execOp a.eval o).run P w = .ok (.value u) w')
    (ht : ∀ β ∈ bs, ∃ sb, S.heap[β]? = some sb ∧ mineB sb = true) (hnd : bs.Nodup)
    (hus : ∀ (j : Nat) u, us[j]? = some u → blkOf u = none ∨ ∃ β, bs[j]? = some β ∧ (u = (μ β).v ∧ (μ β).hist = []) ∧ ∃ a len cap, u = .slice a len cap)
    (h1 : w'.os = w.os) (h2 : w'.tape = w.tape) (h3 : w'.output = w.output) (hsz : w.heap.size ≤ w'.heap.size) (hblk : ∀ b, b < w.heap.size → (∀ β ∈ bs, ¬ (μ β).own b) → w'.heap[b]? = w.heap[b]?) (hfr : (∀ b, blkOf u = some b → w.heap.size ≤ b) ∨ False)
    (hown : w'.ownsRow 0 e 1 u n us) (hn : ls.length = n) (hrd : RowsD w et e' us ls) (hx : x.get (ρ ++ σ) = some (.lst (ls.map fun l => D.lst (l.map (unflat et.agg))))) (hall : ∀ b, b < w.heap.size → w'.heap[b]? = w.heap[b]? := by exact fun b hb => alloc_old hb) :
    HopOk P X M w0 S μ o a w (ρ ++ σ) (.c (.s (.own S.heap.length))) (killAll S.heap bs ++ [.rows et e' e 0 x]) bs := by
  obtain ⟨k1, k2, k3⟩ := killAll_get (bs := bs) (h := S.heap)
  have hfr : ∀ b, blkOf u = some b → w.heap.size ≤ b := by rcases hfr with h | h; exact h; exact h.elim
  have hbown : ∀ (j : Nat) v, us[j]? = some v → ∀ b, blkOf v = some b → ∃ β, bs[j]? = some β ∧ (μ β).own b := fun j v hj b hb => by
    rcases hus j v hj with h0 | ⟨β, g1, ⟨g2, g3⟩, _⟩
    · rw [h0] at hb; cases hb
    · exact ⟨β, g1, .inl (by rw [← g2]; exact hb)⟩
  have hold : ∀ β ∈ bs, ∀ b, (μ β).own b → b < w.heap.size := fun β hβ b hb => by
    obtain ⟨sb, g1, g2⟩ := ht β hβ
    exact hR.own_lt ⟨sb, g1, fun e => by subst e; cases g2⟩ hb
  have m : Move S μ w bs (killAll S.heap bs ++ [.rows et e' e 0 x]) (fun β => if β < S.heap.length then μ β else ⟨u, [us]⟩) w' :=
    Move.fresh ht k1 k2 (fun γ hγ => k3 γ hγ (by obtain ⟨sb, g1, _⟩ := ht γ hγ; exact (List.getElem?_eq_some_iff.1 g1).1)) h1 h2 h3 hsz hblk (fun b hb => by
      rcases hb with hb | ⟨v, hv, hb⟩
      · exact .inl (hfr b hb)
      · obtain ⟨j, hj⟩ := List.getElem?_of_mem hv
        obtain ⟨β, g1, g2⟩ := hbown j v hj b hb
        exact .inr ⟨β, List.mem_of_getElem? g1, g2⟩)
  have hin : (MV.mk u [us]).inner = us := rfl
  refine ⟨_, _, _, _, hr, .inl rfl, m, fun β sb hb h => ?_, ?_⟩
  · have hβ : β = S.heap.length ∨ (β ∈ bs ∧ sb = .dead) := by
      have hlt := (List.getElem?_eq_some_iff.1 hb).1
      simp only [List.length_append, k1, List.length_cons, List.length_nil] at hlt
      rcases h with h | h
      · have hlt2 : β < S.heap.length := by obtain ⟨sb, g1, _⟩ := ht β h; exact (List.getElem?_eq_some_iff.1 g1).1
        rw [List.getElem?_append_left (by omega), k3 β h hlt2] at hb
        simp only [Option.some.injEq] at hb
        exact .inr ⟨h, hb.symm⟩
      · left; omega
    rcases hβ with rfl | ⟨_, rfl⟩
    · rw [List.getElem?_append_right (by omega), k1, Nat.sub_self] at hb
      simp only [List.getElem?_cons_zero, Option.some.injEq] at hb
      subst hb
      simp only [Nat.lt_irrefl, if_false]
      refine ⟨rfl, n, ls, hown, fun b hb => ?_, hx, hn, ?_, ?_, ?_⟩
      · rcases hb with hb | ⟨v, hv, hb⟩
        · exact .inl (Nat.le_trans hR.keeps.size (hfr b hb))
        · obtain ⟨j, hj⟩ := List.getElem?_of_mem hv
          obtain ⟨β, g1, g2⟩ := hbown j v hj b hb
          obtain ⟨sb, g3, g4⟩ := ht β (List.mem_of_getElem? g1)
          exact hR.mine g3 g4 g2
      · refine hrd.kept fun v hv b hb => hall b ?_
        obtain ⟨j, hj⟩ := List.getElem?_of_mem hv
        obtain ⟨β, g1, g2⟩ := hbown j v hj b hb
        exact hold β (List.mem_of_getElem? g1) b g2
      · intro i j v v' hi hj hne b hb hb'
        obtain ⟨β, g1, g2⟩ := hbown i v hi b hb
        obtain ⟨γ, g3, g4⟩ := hbown j v' hj b hb'
        obtain ⟨s1, g5, g6⟩ := ht β (List.mem_of_getElem? g1)
        obtain ⟨s2, g7, g8⟩ := ht γ (List.mem_of_getElem? g3)
        refine hR.inj β γ ⟨s1, g5, fun e => by subst e; cases g6⟩ ⟨s2, g7, fun e => by subst e; cases g8⟩ (fun e => hne ?_) b g2 g4
        subst e
        exact nodup_map_inj (g := fun x => x) (by simpa using hnd) g1 g3 rfl
      · intro v hv b hb he
        obtain ⟨j, hj⟩ := List.getElem?_of_mem hv
        obtain ⟨β, g1, g2⟩ := hbown j v hj b hb
        have := hold β (List.mem_of_getElem? g1) b g2
        have := hfr b he
        omega
    · trivial
  · obtain ⟨ad, cap, e'⟩ := ownsRow_slice hown
    exact ⟨by simp [k1], by simp, ad, n, cap, by simp [e']⟩

theorem run_buildSlice0 (t e : TypeId) (hu : P.underlying t = some (.slice e)) {i : TypeInfo} (hi : P.info? e = some i) : (Instr.buildSlice t 0 #[]).run P w = .ok (.slice (some ⟨w.heap.size, 0, none⟩) 0 0) (w.alloc (.cells #[] e)) := by
  simp [Instr.buildSlice, run_underlying hu, Go.sizeOf, typeInfo, hi, newRow, Instr.fill]
  congr 2
  exact Array.eq_empty_of_size_eq_zero (by simp)

/-- A slice written out: the run. -/
theorem run_lit {t e : TypeId} {i : TypeInfo} {z : Value} {us : List Value} (hu : P.underlying t = some (.slice e)) (hi : P.info? e = some i) (hz : i.zero = some z) (hpos : 0 < i.size) (hlen : us.length * i.size ≤ 2 ^ 24) (hus : ∀ u ∈ us, u.cells.size = i.size) :
    (Instr.buildSlice t us.length ((us.zipIdx 0).map fun x => (x.2, x.1)).toArray).run P w = .ok (.slice (some ⟨w.heap.size, 0, none⟩) us.length us.length) (w.alloc (.cells (us.flatMap fun v => v.cells.toList).toArray e)) := by
  by_cases h0 : us.length = 0
  · have : us = [] := List.eq_nil_of_length_eq_zero h0
    subst this
    exact run_buildSlice0 t e hu hi
  · refine run_buildSlice w t e us.length _ _ i z hu hi hz (by omega) (fun e => ?_) ?_
    · rcases Nat.mul_eq_zero.1 e with h | h <;> omega
    · refine Go.Great.fill_whole hpos us _ hus ?_
      simp

theorem parts_zip {S : SS} {g : Guard} : ∀ {parts : List (Nat × Operand)} {l : List (Nat × SV)}, svParts S g parts = .ok l → l.map (·.1) = parts.map (·.1) ∧ l.length = parts.length
  | [], l, h => by simp only [svParts, Except.ok.injEq] at h; subst h; simp
  | (i, o) :: ps, l, h => by
    simp only [svParts] at h
    obtain ⟨a, h1, h2⟩ := bind_ok h
    obtain ⟨r, h3, h4⟩ := bind_ok h2
    simp only [Except.ok.injEq] at h4
    subst h4
    obtain ⟨i1, i2⟩ := parts_zip h3
    exact ⟨by simp [i1], by simp [i2]⟩

theorem zip_range {us : List Value} : ∀ {parts : List (Nat × Value)} {k : Nat}, parts.map (·.1) = List.range' k parts.length → us = parts.map (·.2) → parts = (us.zipIdx k).map fun x => (x.2, x.1)
  | [], k, _, h => by subst h; rfl
  | (i, v) :: ps, k, h1, h2 => by
    subst h2
    simp only [List.map_cons, List.length_cons, List.range'_succ, List.cons.injEq] at h1
    obtain ⟨rfl, h1⟩ := h1
    simp only [List.map_cons, List.zipIdx_cons, List.cons.injEq, true_and]
    exact zip_range h1 rfl

theorem PartsR.get {F : Nat → Prop} {hl : Nat} : ∀ {l : List (Nat × SV)} {q : List (Nat × Value)}, PartsR w F hl μ ρ l q → l.map (·.1) = q.map (·.1) ∧ l.length = q.length ∧ ∀ (j : Nat) s u, (l.map (·.2))[j]? = some s → (q.map (·.2))[j]? = some u → SVR w F hl μ ρ s u
  | [], [], _ => ⟨rfl, rfl, by simp⟩
  | (i, s) :: l, (j, v) :: q, ⟨h1, h2, h3⟩ => by
    obtain ⟨i1, i2, i3⟩ := PartsR.get h3
    refine ⟨by simp [h1, i1], by simp [i2], fun k s' u' hs hu => ?_⟩
    cases k with
    | zero => simp only [List.map_cons, List.getElem?_cons_zero, Option.some.injEq] at hs hu; subst hs hu; exact h2
    | succ k => simp only [List.map_cons, List.getElem?_cons_succ] at hs hu; exact i3 k s' u' hs hu

theorem build_hop {o : Oper} {t : TypeId} {len : Nat} {parts : Array (Nat × Operand)} {l : List (Nat × SV)} {v : SV} {ps : List Push} {heap' : List SB} {tch : List Nat} {ρ' : List D} (ho : o.op = .buildSlice t len parts) (hR : R X M w0 S μ ρ a w)
    (hl : svParts S none parts.toList = .ok l) (h : hopBuildSlice P S t len l = .ok (v, ps, heap', tch)) (hp : pushAll ps ρ = some ρ') : HopOk P X M w0 S μ o a w ρ' v heap' tch := by
  unfold hopBuildSlice at h
  obtain ⟨k, hk, h⟩ := bind_ok h
  have hk := need_ok hk
  split at h
  · rename_i hpar
    have hpr := svParts_ok (g := none) rfl hR.slots hl
    obtain ⟨q1, q2, q3⟩ := hpr.get
    generalize hus : (parts.toList.map fun (i, x) => (i, a.eval x)) = vals at *
    have hvl : vals.length = len := by
      have := congrArg List.length hpar.1
      rw [← q2]; simpa using this
    have hzip : vals = ((vals.map (·.2)).zipIdx 0).map fun x => (x.2, x.1) := by
      refine zip_range ?_ rfl
      rw [← q1, hpar.1, hvl, List.range_eq_range']
    have hrun0 : (execOp a.eval o).run P w = ((Instr.buildSlice t len vals.toArray).run P w).andThen fun v w' => .ok (.value v) w' := by
      have : (parts.map fun (i, x) => (i, a.eval x)) = vals.toArray := by apply Array.ext'; rw [← hus]; simp
      simp [execOp, ho, this]
    rcases mkOf_ok hk with ⟨et, e, rfl, ht, hel⟩ | ⟨et, e', e, rfl, ht, hel⟩
    · -- plain elements
      dsimp only at h
      obtain ⟨⟨xs, pe⟩, g1, g2⟩ := bind_ok h
      dsimp only at g2
      simp only [Except.ok.injEq, Prod.mk.injEq] at g2
      obtain ⟨rfl, rfl, rfl, rfl⟩ := g2
      obtain ⟨i, z, hE⟩ := elemOk_ok hel
      obtain ⟨σ1, p1, p2, p3⟩ := push_split hp
      have g1' : elemsPush et (ρ ++ []).length (l.map (·.2)) = .ok (xs, pe) := by simpa [hR.len] using g1
      obtain ⟨i1, i2, ls, i3, i4, i5⟩ := elemsPush_ok (us := vals.map (·.2)) g1' (by simp [q2]) q3 (by simpa using p1)
      obtain ⟨d, hd, rfl⟩ := pushAll_one p3
      rw [i3] at hd
      simp only [Prim.ev, Option.some.injEq] at hd
      subst hd
      have hlen : (vals.map (·.2)).length = len := by simpa using hvl
      have hrun := run_lit (P := P) (w := w) (us := vals.map (·.2)) ht hE.info hE.zero hE.pos (by
          rw [hlen]
          have h1 := hpar.2
          have h2 : i.size ≤ 4096 := Nat.le_trans hE.few (by decide)
          calc len * i.size ≤ 4096 * 4096 := Nat.mul_le_mul h1 h2
            _ ≤ 2 ^ 24 := by decide) (fun u hu => by rw [hE.size]; exact i2 u hu)
      rw [hlen, ← hzip] at hrun
      rw [hrun, Result.andThen_ok] at hrun0
      have hp2 : σ1.length = pe.length := p2
      rw [List.append_assoc]
      refine fresh_row (n := len) (xs := _) (ls := ls) hR hrun0 rfl rfl rfl (by simp) (fun b hb => alloc_old hb) (fun b hb => by simp only [blkOf, Option.some.injEq] at hb; omega) ?_ (by rw [i4, hlen]) i5 ?_
      · have hown := World.ownsRow_lit (base := 0) (e := e) (size := et.cells.length) w ((vals.map (·.2)).flatMap fun v => v.cells.toList).toArray len (Nat.zero_le _) (by simp only [maxLen]; omega) (by
          have := i5.length
          rw [i4, hlen] at this
          simpa using this)
        simpa using hown
      · rw [← List.append_assoc]
        have := get_new (ρ := ρ ++ σ1) (n := S.n + pe.length) (d := D.lst (ls.map (unflat et.agg))) (by rw [List.length_append, hR.len, hp2])
        exact this
    · -- own rows
      dsimp only at h
      obtain ⟨⟨bs, xs⟩, g1, g2⟩ := bind_ok h
      dsimp only at g2
      split at g2
      · rename_i hnd
        simp only [Except.ok.injEq, Prod.mk.injEq] at g2
        obtain ⟨rfl, rfl, rfl, rfl⟩ := g2
        obtain ⟨i, hE⟩ := elemSl_ok hel
        obtain ⟨i1, i2, i3, ls, i4, i5, i6⟩ := ownRows_ok hR g1 (us := vals.map (·.2)) (by simp [q2]) q3
        obtain ⟨d, hd, rfl⟩ := pushAll_one hp
        rw [i4] at hd
        simp only [Prim.ev, Option.some.injEq] at hd
        subst hd
        have hlen : (vals.map (·.2)).length = len := by simpa using hvl
        have hcell : ∀ u ∈ vals.map (·.2), u.cells = #[u] := by
          intro u hu
          obtain ⟨j, hj⟩ := List.getElem?_of_mem hu
          obtain ⟨β, hβ, e⟩ := i3 j u hj
          obtain ⟨a', l', c', e'⟩ := e.2
          rw [e']; rfl
        have hus1 : ∀ u ∈ vals.map (·.2), u.cells.size = i.size := fun u hu => by rw [hcell u hu, hE.size]; rfl
        have hrun := run_lit (P := P) (w := w) (us := vals.map (·.2)) ht hE.info hE.zero (by rw [hE.size]; decide) (by
            rw [hlen, hE.size]
            have h1 := hpar.2
            calc len * 1 ≤ 4096 * 1 := Nat.mul_le_mul h1 (Nat.le_refl _)
              _ ≤ 2 ^ 24 := by decide) hus1
        rw [hlen, ← hzip] at hrun
        rw [hrun, Result.andThen_ok] at hrun0
        have hflat : ((vals.map (·.2)).flatMap fun v => v.cells.toList) = vals.map (·.2) := by
          have : ∀ (us : List Value), (∀ u ∈ us, u.cells = #[u]) → (us.flatMap fun v => v.cells.toList) = us := by
            intro us
            induction us with
            | nil => intro _; rfl
            | cons u us ih => intro h; simp only [List.flatMap_cons, h u (by simp)]; rw [ih fun v hv => h v (by simp [hv])]; rfl
          exact this _ hcell
        rw [hflat] at hrun0
        refine fresh_rows hR hrun0 i1 hnd (fun j u hj => .inr (i3 j u hj)) rfl rfl rfl (by simp) (fun b hb _ => alloc_old hb) (.inl fun b hb => by simp only [blkOf, Option.some.injEq] at hb; omega) ?_ (by rw [i5, hlen]) i6 (get_new hR.len)
        have hown := World.ownsRow_lit (base := 0) (e := e) (size := 1) w (vals.map (·.2)).toArray len (Nat.zero_le _) (by simp only [maxLen]; omega) (by simp [hvl])
        simpa using hown
      · cases g2
  · cases h

/-! ### Slices that are made -/
theorem zeroD_ok (w : World) {e : TypeId} {et : ET} {i : TypeInfo} {z : Value} {d : D} (hE : ElemOk P e et i z) (h : zeroD P e et = some d) : ∃ l, RdCs RdB et.cells z.cells.toList l ∧ d = unflat et.agg l := by
  unfold zeroD at h
  rw [hE.info] at h
  simp only [hE.zero] at h
  split at h
  · rename_i cs hcs
    have key : ∀ {ts : List BT} {cs : List CV} {vs : List Value} {l : List D}, litCells vs = some cs → zeroD.zs ts cs = some l → RdCs RdB ts vs l := by
      intro ts
      induction ts with
      | nil =>
        intro cs vs l h1 h2
        cases cs with
        | nil =>
          simp only [zeroD.zs, Option.some.injEq] at h2
          subst h2
          cases vs with
          | nil => trivial
          | cons v vs =>
            simp only [litCells] at h1
            split at h1 <;> simp at h1
        | cons c cs => simp [zeroD.zs] at h2
      | cons t ts ih =>
        intro cs vs l h1 h2
        cases cs with
        | nil => simp [zeroD.zs] at h2
        | cons c cs =>
          cases vs with
          | nil => simp [litCells] at h1
          | cons v vs =>
            have hR := litCells_ok (w := w) (F := fun _ => True) (hl := 0) (μ := fun _ => MV.one Go.undef) (ρ := []) h1
            obtain ⟨hv, _⟩ := hR
            simp only [litCells] at h1
            split at h1
            · rename_i c0 cs0 e1 e2
              simp only [Option.some.injEq, List.cons.injEq] at h1
              obtain ⟨rfl, rfl⟩ := h1
              unfold zeroD.zs at h2
              split at h2
              · rename_i heq _; cases heq
              · rename_i t0 ts0 t' d' cs1 heq heq2
                simp only [List.cons.injEq] at heq heq2
                obtain ⟨rfl, rfl⟩ := heq
                obtain ⟨heq3, rfl⟩ := heq2
                split at h2
                · rename_i ht
                  subst ht
                  simp only [Option.map_eq_some_iff] at h2
                  obtain ⟨l', h3, rfl⟩ := h2
                  rw [heq3] at hv
                  obtain ⟨d, hd, hr⟩ := hv
                  simp only [Atom.get, Option.some.injEq] at hd
                  subst hd
                  exact ⟨hr, ih e2 h3⟩
                · cases h2
              · cases h2
            · cases h1
    simp only [Option.map_eq_some_iff] at h
    obtain ⟨l, h1, rfl⟩ := h
    exact ⟨l, key hcs h1, rfl⟩
  · cases h

theorem made_row {et : ET} {z : Array Value} {l : List D} (hr : RdCs RdB et.cells z.toList l) : ∀ (n : Nat), RdRow RdB et.cells ((List.replicate n z.toList).flatten) (List.replicate n l)
  | 0 => rfl
  | n + 1 => ⟨z.toList, (List.replicate n z.toList).flatten, by simp [List.replicate_succ], hr, made_row hr n⟩

theorem madeCells_flat (z : Array Value) : ∀ (n : Nat), (madeCells z (n * z.size)).toList = (List.replicate n z.toList).flatten := by
  intro n
  apply List.ext_getElem?
  intro k
  by_cases hz : z.size = 0
  · have : z = #[] := Array.eq_empty_of_size_eq_zero hz
    subst this
    have : (List.replicate n ([] : List Value)).flatten = [] := by induction n with | zero => rfl | succ n ih => simp [List.replicate_succ]
    simp [madeCells]
  · have hpos : 0 < z.size := Nat.pos_of_ne_zero hz
    have get : ∀ (n k : Nat), ((List.replicate n z.toList).flatten)[k]? = if k < n * z.size then z.toList[k % z.size]? else none := by
      intro n
      induction n with
      | zero => intro k; simp
      | succ n ih =>
        intro k
        rw [List.replicate_succ, List.flatten_cons]
        by_cases hk : k < z.size
        · rw [List.getElem?_append_left (by simpa using hk), if_pos (by rw [Nat.add_mul]; omega), Nat.mod_eq_of_lt hk]
        · rw [List.getElem?_append_right (by simpa using Nat.le_of_not_lt hk), ih]
          have e : (k - z.size) % z.size = k % z.size := by rw [← Nat.mod_eq_sub_mod (by omega)]
          simp only [Array.length_toList, e, Nat.add_mul, Nat.one_mul]
          by_cases h : k < n * z.size + z.size
          · rw [if_pos h, if_pos (by omega)]
          · rw [if_neg h, if_neg (by omega)]
    rw [get]
    by_cases hk : k < n * z.size
    · rw [if_pos hk]
      simp [madeCells, hk, Nat.mod_lt _ hpos]
    · rw [if_neg hk]
      simp [madeCells]
      omega

theorem same_get {x y : Atom} {σ : List D} {d d' : D} (h : Atom.same x y = true) (hx : x.get σ = some d) (hy : y.get σ = some d') : d = d' := by
  unfold Atom.same at h
  split at h
  · simp only [beq_iff_eq] at h
    subst h
    rw [hx] at hy
    simpa using hy
  · simp only [beq_iff_eq] at h
    subst h
    simp only [Atom.get, Option.some.injEq] at hx hy
    rw [← hx, ← hy]
  · cases h

theorem make_hop {o : Oper} {t : TypeId} {lo co : Operand} {sa sb v : SV} {ps : List Push} {heap' : List SB} {tch : List Nat} {ρ' : List D} (ho : o.op = .makeSlice t lo co) (hR : R X M w0 S μ ρ a w)
    (h1 : getSV S lo = .ok sa) (h2 : getSV S co = .ok sb) (h : hopMakeSlice P S t sa sb = .ok (v, ps, heap', tch)) (hp : pushAll ps ρ = some ρ') : HopOk P X M w0 S μ o a w ρ' v heap' tch := by
  unfold hopMakeSlice at h
  obtain ⟨k, hk, h⟩ := bind_ok h
  have hk := need_ok hk
  split at h
  · rename_i x y
    obtain ⟨n, en, hn⟩ := rd_int (getSV_ok h1 hR.slots)
    obtain ⟨n', en', hn'⟩ := rd_int (getSV_ok h2 hR.slots)
    split at h
    · rename_i hsame
      have := same_get hsame hn hn'
      simp only [D.int.injEq] at this
      subst this
      have hrunOf : ∀ {e : TypeId} {i : TypeInfo} {z : Value}, P.underlying t = some (.slice e) → P.info? e = some i → i.zero = some z → i.bytes ≤ 64 → 0 ≤ n → n ≤ 1099511627776 →
          ∃ w', (execOp a.eval o).run P w = .ok (.value (.slice (some ⟨w.heap.size, 0, none⟩) n.toNat n.toNat)) w' ∧ w'.ownsRow 0 e i.size (.slice (some ⟨w.heap.size, 0, none⟩) n.toNat n.toNat) n.toNat (madeCells z.cells (n.toNat * i.size)).toList ∧ w.grownBy w' none := by
        intro e i z ht hi hz hb h0 hmax
        obtain ⟨w', r1, r2, r3⟩ := run_make_full (P := P) w 0 t e i z i.size ht hi hz rfl .i64 .i64 n.toNat (by
          have : n.toNat ≤ 1099511627776 := by omega
          calc i.bytes * n.toNat ≤ 64 * 1099511627776 := Nat.mul_le_mul hb this
            _ ≤ 281474976710656 := by decide) (by simp only [maxLen]; omega) (Nat.zero_le _)
        refine ⟨w', ?_, r2, r3⟩
        rw [Int.toNat_of_nonneg h0] at r1
        simp [execOp, ho, en, en', r1]
      rcases mkOf_ok hk with ⟨et, e, rfl, ht, hel⟩ | ⟨et, e', e, rfl, ht, hel⟩
      · dsimp only at h
        obtain ⟨z, g1, g2⟩ := bind_ok h
        simp only [Except.ok.injEq, Prod.mk.injEq] at g2
        obtain ⟨rfl, rfl, rfl, rfl⟩ := g2
        obtain ⟨i, zv, hE⟩ := elemOk_ok hel
        obtain ⟨l, hl, rfl⟩ := zeroD_ok w hE (need_ok g1)
        obtain ⟨d, hd, rfl⟩ := pushAll_one hp
        simp only [evs, List.map_cons, List.map_nil, Atom.ev_of_get hn, Atom.ev_of_get (x := .c (unflat et.agg l)) (ρ := ρ) rfl, Prim.ev] at hd
        split at hd
        · rename_i hb
          simp only [Option.some.injEq] at hd
          subst hd
          obtain ⟨w', r1, r2, r3⟩ := hrunOf ht hE.info hE.zero hE.bytes hb.1 hb.2
          have hrow : RdRow RdB et.cells (madeCells zv.cells (n.toNat * i.size)).toList (List.replicate n.toNat l) := by
            rw [← hE.zs, madeCells_flat]; exact made_row hl _
          rw [hE.size] at r2 hrow
          refine fresh_row (σ := [_]) hR r1 r3.os r3.tape r3.output r3.size (fun b hb => r3.block b hb (by simp)) (fun b hb => by simp only [blkOf, Option.some.injEq] at hb; omega) r2 (by simp) hrow ?_
          rw [List.map_replicate]
          exact get_new hR.len
        · cases hd
      · dsimp only at h
        simp only [Except.ok.injEq, Prod.mk.injEq] at h
        obtain ⟨rfl, rfl, rfl, rfl⟩ := h
        obtain ⟨i, hE⟩ := elemSl_ok hel
        obtain ⟨d, hd, rfl⟩ := pushAll_one hp
        simp only [evs, List.map_cons, List.map_nil, Atom.ev_of_get hn, Atom.ev_of_get (x := .c (.lst [])) (ρ := ρ) rfl, Prim.ev] at hd
        split at hd
        · rename_i hb
          simp only [Option.some.injEq] at hd
          subst hd
          obtain ⟨w', r1, r2, r3⟩ := hrunOf ht hE.info hE.zero hE.bytes hb.1 hb.2
          rw [hE.size, Nat.mul_one] at r2
          have hone : (madeCells (Value.slice none 0 0).cells n.toNat).toList = List.replicate n.toNat (.slice none 0 0) := toList_madeCells_one _ _
          rw [hone] at r2
          have hrows : RowsD w et e' (List.replicate n.toNat (.slice none 0 0)) (List.replicate n.toNat []) := ⟨by simp, fun i u l hi hl => by
            rw [List.getElem?_replicate] at hi hl
            split at hi <;> simp only [Option.some.injEq, reduceCtorEq] at hi
            rename_i hlt
            rw [if_pos hlt] at hl
            simp only [Option.some.injEq] at hl
            subst hi hl
            exact ⟨0, [], ⟨by simp, .inl ⟨rfl, rfl⟩⟩, rfl, rfl⟩⟩
          refine fresh_rows (σ := [_]) (bs := []) (us := List.replicate n.toNat (.slice none 0 0)) (ls := List.replicate n.toNat []) (n := n.toNat) hR r1 (by simp) (by simp) (fun j u hj => .inl ?_) r3.os r3.tape r3.output r3.size (fun b hb _ => r3.block b hb (by simp))
            (.inl fun b hb => by simp only [blkOf, Option.some.injEq] at hb; omega) r2 (by simp) hrows ?_ (fun b hb => r3.block b hb (by simp))
          · rw [List.getElem?_replicate] at hj
            split at hj <;> simp only [Option.some.injEq, reduceCtorEq] at hj
            subst hj; rfl
          · rw [List.map_replicate]
            exact get_new hR.len
        · cases hd
    · cases h
  · cases h

end
end Vs

namespace Vs
open Go Go.RowKit

section
variable {P : Program} {X : Nat → Prop} {M : Hand} {w0 w w' : World} {S : SS} {μ μ' : Mu} {ρ : List D} {a : Act}

theorem ownBlock_blk {v : Value} {a : Option Addr} {n c : Nat} (h : v = .slice a n c) : v.ownBlock = blkOf v := by
  subst h; cases a <;> rfl

/-- What is appended: nothing, or cells that can be read. -/
def News (w : World) (bv : Value) (m : Nat) (news : List Value) : Prop :=
  (bv = .slice none 0 0 ∧ m = 0 ∧ news = []) ∨ ∃ ad c, bv = .slice (some ad) m c ∧ ∀ j u, news[j]? = some u → w.cell? (ad.add j) = some u

theorem run_app {t ty e : TypeId} {i : TypeInfo} {z : Value} {v bv : Value} {n m : Nat} {xs news : List Value} (ht : P.underlying t = some (.slice e)) (hi : P.info? e = some i) (hz : i.zero = some z) (hzs : z.cells.size = i.size) (hpos : 0 < i.size) (hby : i.bytes ≤ 64)
    (hown : w.ownsRow 0 e i.size v n xs) (hl : news.length = m * i.size) (hnews : News w bv m news) (h1 : ∀ u ∈ news, u.oneCell' = true) (hmax : n + m ≤ 1099511627776) :
    ∃ v' w', (Builtin.append_ #[t, t] ty #[v, bv]).run P w = .ok v' w' ∧ w'.ownsRow 0 e i.size v' (n + m) (xs ++ news) ∧ w.grownBy w' v.ownBlock ∧ ∀ b, blkOf v' = some b → w.heap.size ≤ b ∨ blkOf v = some b := by
  rcases hnews with ⟨rfl, rfl, rfl⟩ | ⟨ad, c, rfl, hcell⟩
  · exact ⟨v, w, run_append_owned_none w 0 t ty e i i.size ht hi v n xs hown, by simpa using hown, ⟨rfl, rfl, rfl, Nat.le_refl _, fun _ _ _ => rfl⟩, fun b hb => .inr hb⟩
  · have hm : n + m ≤ maxLen := by simp only [maxLen]; omega
    have hb : (n + m) * i.bytes ≤ 140737488355328 := by
      calc (n + m) * i.bytes ≤ 1099511627776 * 64 := Nat.mul_le_mul hmax hby
        _ ≤ 140737488355328 := by decide
    obtain ⟨v', w', r1, r2, r3, r4⟩ := run_append_own (P := P) w 0 t ty e i z i.size i.bytes ht hi hz rfl rfl hzs hpos v n xs hown ad m c news hl hcell h1 hm hb (Nat.zero_le _)
    refine ⟨v', w', r1, r2, r3, fun b hb' => ?_⟩
    rcases hown.2 with ⟨rfl, rfl⟩ | ⟨g, cap, cur, rfl, _, hg, hnc, _, hcs, htake⟩
    · by_cases h0 : m = 0
      · subst h0
        have : v' = .slice none 0 0 := r4.2 ⟨rfl, rfl⟩
        rw [this] at hb'; cases hb'
      · have hr := run_append_nil (P := P) w t ty e i z ht hi hz ad m c news hl hcell (by omega) (by simp only [Nat.zero_add] at hmax; omega) (by simp only [Nat.zero_add] at hb; omega)
        rw [hr] at r1
        simp only [Result.ok.injEq] at r1
        rw [← r1.1] at hb'
        simp only [blkOf, Option.some.injEq] at hb'
        left; omega
    · by_cases hroom : n + m ≤ cap
      · obtain ⟨w2, q1, _⟩ := run_append_fits (P := P) w 0 t ty e i i.size ht hi rfl g n cap xs hown ad m c news hl hcell h1 hroom
        rw [q1] at r1
        simp only [Result.ok.injEq] at r1
        rw [← r1.1] at hb'
        exact .inr hb'
      · have hr := run_append_grow (P := P) w t ty e i z ht hi hz ⟨g, 0, none⟩ n cap xs hown.1 (hown.cells (g := g) rfl) ad m c news hl hcell (by omega) (by omega) (growslice_fits (by omega) hb)
        rw [hr] at r1
        simp only [Result.ok.injEq] at r1
        rw [← r1.1] at hb'
        simp only [blkOf, Option.some.injEq] at hb'
        left; omega

theorem RdCs_one : ∀ {ts : List BT} {vs : List Value} {ds : List D}, RdCs RdB ts vs ds → ∀ u ∈ vs, u.oneCell' = true
  | [], [], [], _, u, hu => by simp at hu
  | t :: ts, v :: vs, d :: ds, ⟨h1, h2⟩, u, hu => by
    rcases List.mem_cons.1 hu with rfl | hu
    · cases t <;> (obtain ⟨n, rfl, _⟩ := h1; rfl)
    · exact RdCs_one h2 u hu
theorem RdRow_one {ts : List BT} : ∀ {xs : List Value} {ls : List (List D)}, RdRow RdB ts xs ls → ∀ u ∈ xs, u.oneCell' = true
  | xs, [], h, u, hu => by simp only [RdRow] at h; subst h; simp at hu
  | xs, l :: ls, ⟨c, r, e, h1, h2⟩, u, hu => by
    subst e
    rcases List.mem_append.1 hu with h | h
    · exact RdCs_one h1 u h
    · exact RdRow_one h2 u h
theorem RdRow_append {ts : List BT} : ∀ {xs ys : List Value} {ls ks : List (List D)}, RdRow RdB ts xs ls → RdRow RdB ts ys ks → RdRow RdB ts (xs ++ ys) (ls ++ ks)
  | xs, ys, [], ks, h, h2 => by simp only [RdRow] at h; subst h; simpa using h2
  | xs, ys, l :: ls, ks, ⟨c, r, e, h1, h3⟩, h2 => ⟨c, r ++ ys, by rw [e]; simp, h1, RdRow_append h3 h2⟩

/-- What reads can be appended. -/
theorem news_of {et : ET} {F : Nat → Prop} {bv : Value} {d : D} (h : RdSl w F (rr1 et) et.agg bv d) : ∃ m news ls, News w bv m news ∧ d = .lst (ls.map (unflat et.agg)) ∧ ls.length = m ∧ RdRow RdB et.cells news ls ∧ news.length = m * et.cells.length := by
  obtain ⟨ls, rfl, ⟨⟨ad, cap, rfl, h0⟩, rfl⟩ | ⟨b, off, cap, xs, rfl, _, _, hc, hr⟩⟩ := h
  · cases ad with
    | none => obtain rfl := h0 rfl; exact ⟨0, [], [], .inl ⟨rfl, rfl, rfl⟩, rfl, rfl, rfl, by simp⟩
    | some ad => exact ⟨0, [], [], .inr ⟨_, cap, rfl, by simp⟩, rfl, rfl, rfl, by simp⟩
  · exact ⟨ls.length, xs, ls, .inr ⟨_, cap, rfl, fun j u hj => by rw [addr_add]; exact hc j u hj⟩, rfl, rfl, hr, hr.length⟩

theorem app_run {o : Oper} {s x : Operand} {t : TypeId} {v' : Value} {args : Array Operand} {ats : Array TypeId} (ho : o.op = .call { callee := .builtin .append, args := args, argTypes := ats }) (ha : args.toList = [s, x]) (hat : ats.toList = [t, t])
    (hr : (Builtin.append_ #[t, t] o.type #[a.eval s, a.eval x]).run P w = .ok v' w') : (execOp a.eval o).run P w = .ok (.value v') w' := by
  have e1 : args = #[s, x] := by apply Array.ext'; simpa using ha
  have e2 : ats = #[t, t] := by apply Array.ext'; simpa using hat
  subst e1 e2
  simp [execOp, ho, resolve, invoke, builtin, hr]

/-- The slice that is appended to. -/
theorem base_row (hR : R X M w0 S μ ρ a w) {et : ET} {e : TypeId} {sa : SV} {va : Value} {x : Atom} {ha : List SB} {tch : List Nat} (hv : SVR w (Fz X S.heap μ w) S.heap.length μ ρ sa va)
    (h : (sa = .c (.s .nils) ∧ x = .c (.lst []) ∧ ha = S.heap ∧ tch = []) ∨ ∃ β, sa = .c (.s (.own β)) ∧ S.heap[β]? = some (.row (.s1 et) e x) ∧ ha = S.heap.set β .dead ∧ tch = [β]) :
    ∃ n xs ls, w.ownsRow 0 e et.cells.length va n xs ∧ x.get ρ = some (.lst (ls.map (unflat et.agg))) ∧ ls.length = n ∧ RdRow RdB et.cells xs ls ∧ (∀ γ ∈ tch, ∃ sb, S.heap[γ]? = some sb ∧ mineB sb = true) ∧ ha.length = S.heap.length ∧
      (∀ β, β ∉ tch → ha[β]? = S.heap[β]?) ∧ (∀ γ ∈ tch, ha[γ]? = some .dead) ∧ ∀ b, blkOf va = some b → ∃ γ ∈ tch, (μ γ).own b := by
  rcases h with ⟨rfl, rfl, rfl, rfl⟩ | ⟨β, rfl, hb, rfl, rfl⟩
  · simp only [SVR, CVR, CVR0] at hv
    subst hv
    exact ⟨0, [], [], ⟨by simp, .inl ⟨rfl, rfl⟩⟩, rfl, rfl, rfl, by simp, rfl, fun _ _ => rfl, by simp, fun b hb => (by cases hb)⟩
  · obtain ⟨_, rfl, _⟩ := hv
    obtain ⟨_, n, xs, ls, h1, h2, h3, h4, h5⟩ := hR.blocks β _ hb
    refine ⟨n, xs, ls, h1, h3, h4, h5, fun γ hγ => ?_, by simp, fun γ hγ => ?_, fun γ hγ => ?_, fun b hbb => ⟨β, by simp, .inl hbb⟩⟩
    · simp only [List.mem_singleton] at hγ; subst hγ; exact ⟨_, hb, rfl⟩
    · rw [List.getElem?_set_ne]; simpa [eq_comm] using hγ
    · simp only [List.mem_singleton] at hγ; subst hγ; rw [List.getElem?_set_self (List.getElem?_eq_some_iff.1 hb).1]

/-- One new own row out of what was touched. -/
theorem moved_row {o : Oper} {σ : List D} {et : ET} {e : TypeId} {x : Atom} {u va : Value} {n : Nat} {xs : List Value} {ls : List (List D)} {ha : List SB} {tch : List Nat} (hR : R X M w0 S μ ρ a w) (hr : (execOp a.eval o).run P w = .ok (.value u) w')
    (ht : ∀ γ ∈ tch, ∃ sb, S.heap[γ]? = some sb ∧ mineB sb = true) (hl : ha.length = S.heap.length) (hs : ∀ β, β ∉ tch → ha[β]? = S.heap[β]?) (hdead : ∀ γ ∈ tch, ha[γ]? = some .dead) (hva : ∀ b, blkOf va = some b → ∃ γ ∈ tch, (μ γ).own b)
    (hg : w.grownBy w' va.ownBlock) (hvs : va.ownBlock = blkOf va) (hfr : ∀ b, blkOf u = some b → w.heap.size ≤ b ∨ blkOf va = some b)
    (hown : w'.ownsRow 0 e et.cells.length u n xs) (hn : ls.length = n) (hrd : RdRow RdB et.cells xs ls) (hx : x.get (ρ ++ σ) = some (.lst (ls.map (unflat et.agg)))) :
    HopOk P X M w0 S μ o a w (ρ ++ σ) (.c (.s (.own S.heap.length))) (ha ++ [.row (.s1 et) e x]) tch := by
  have hfr' : ∀ b, blkOf u = some b → w.heap.size ≤ b ∨ ∃ γ, γ ∈ tch ∧ (μ γ).own b := fun b hb => by
    rcases hfr b hb with h | h
    · exact .inl h
    · exact .inr (hva b h)
  have m : Move S μ w tch (ha ++ [.row (.s1 et) e x]) (fun β => if β < S.heap.length then μ β else MV.one u) w' :=
    Move.fresh ht hl hs hdead hg.os hg.tape hg.output hg.size (fun b hb hno => hg.block b hb (fun e => by
      rw [hvs] at e
      obtain ⟨γ, h1, h2⟩ := hva b e.symm
      exact hno γ h1 h2)) (fun b hb => by
      rcases hb with hb | ⟨u, hu, _⟩
      · exact hfr' b hb
      · simp [MV.one, MV.inner] at hu)
  refine ⟨_, _, _, _, hr, .inl rfl, m, fun β sb hb h => ?_, ?_⟩
  · have hβ : β = S.heap.length ∨ sb = .dead := by
      have hlt := (List.getElem?_eq_some_iff.1 hb).1
      simp only [List.length_append, hl, List.length_cons, List.length_nil] at hlt
      rcases h with h | h
      · have hlt2 : β < S.heap.length := by obtain ⟨sb, g1, _⟩ := ht β h; exact (List.getElem?_eq_some_iff.1 g1).1
        rw [List.getElem?_append_left (by omega), hdead β h] at hb
        simp only [Option.some.injEq] at hb
        exact .inr hb.symm
      · left; omega
    rcases hβ with rfl | rfl
    · rw [List.getElem?_append_right (by omega), hl, Nat.sub_self] at hb
      simp only [List.getElem?_cons_zero, Option.some.injEq] at hb
      subst hb
      simp only [Nat.lt_irrefl, if_false]
      refine ⟨rfl, n, xs, ls, hown, fun b hb => ?_, hx, hn, hrd⟩
      rcases hfr' b ((MV.own_flat rfl).1 hb) with h1 | ⟨γ, h1, h2⟩
      · exact .inl (Nat.le_trans hR.keeps.size h1)
      · obtain ⟨sb, g3, g4⟩ := ht γ h1
        exact hR.mine g3 g4 h2
    · trivial
  · obtain ⟨ad, cap, e'⟩ := ownsRow_slice hown
    exact ⟨by simp [hl], by simp [MV.one], ad, n, cap, by simp [MV.one, e']⟩

theorem append_hop {o : Oper} {s x : Operand} {t : TypeId} {args : Array Operand} {ats : Array TypeId} {sa sb v : SV} {ps : List Push} {heap' : List SB} {tch : List Nat} {ρ' : List D} (ho : o.op = .call { callee := .builtin .append, args := args, argTypes := ats })
    (hargs : args.toList = [s, x]) (hat : ats.toList = [t, t]) (hR : R X M w0 S μ ρ a w) (h1 : SVR w (Fz X S.heap μ w) S.heap.length μ ρ sa (a.eval s)) (h2 : SVR w (Fz X S.heap μ w) S.heap.length μ ρ sb (a.eval x))
    (h : hopAppend P S t sa sb = .ok (v, ps, heap', tch)) (hp : pushAll ps ρ = some ρ') : HopOk P X M w0 S μ o a w ρ' v heap' tch := by
  unfold hopAppend at h
  obtain ⟨k, hk0, h0⟩ := bind_ok h
  have hk := need_ok hk0
  obtain ⟨⟨xa, ha, tc⟩, g1, g2⟩ := bind_ok h0
  dsimp only at g2
  clear h hk0 h0
  rcases mkOf_ok hk with ⟨et, e, rfl, ht, hel⟩ | ⟨et, e', e, rfl, ht, hel⟩
  · -- plain elements
    obtain ⟨i, z, hE⟩ := elemOk_ok hel
    have hbase : (sa = .c (.s .nils) ∧ xa = .c (.lst []) ∧ ha = S.heap ∧ tc = []) ∨ ∃ β, sa = .c (.s (.own β)) ∧ S.heap[β]? = some (.row (.s1 et) e xa) ∧ ha = S.heap.set β .dead ∧ tc = [β] := by
      split at g1
      · simp only [Except.ok.injEq, Prod.mk.injEq] at g1
        obtain ⟨rfl, rfl, rfl⟩ := g1
        exact .inl ⟨rfl, rfl, rfl, rfl⟩
      · rename_i β
        split at g1
        · rename_i u e1 y u' e2 hb hkk
          simp only [MK.row.injEq] at hkk
          obtain ⟨rfl, rfl⟩ := hkk
          split at g1
          · rename_i hc
            obtain ⟨rfl, rfl⟩ := hc
            simp only [Except.ok.injEq, Prod.mk.injEq] at g1
            obtain ⟨rfl, rfl, rfl⟩ := g1
            exact .inr ⟨β, rfl, hb, rfl, rfl⟩
          · cases g1
        · rename_i hkk; cases hkk
        · cases g1
      · cases g1
    obtain ⟨n, xs, ls, b1, b2, b3, b4, b5, b6, b7, b8, b9⟩ := base_row hR h1 hbase
    have fin : ∀ {y : Atom} {m : Nat} {news : List Value} {ks : List (List D)}, News w (a.eval x) m news → y.get ρ = some (.lst (ks.map (unflat et.agg))) → ks.length = m → RdRow RdB et.cells news ks →
        pushAll [(Prim.app, [xa, y])] ρ = some ρ' → HopOk P X M w0 S μ o a w ρ' (.c (.s (.own S.heap.length))) (ha ++ [.row (.s1 et) e (.v S.n)]) tc := by
      intro y m news ks hnews hy hks hrd hp
      obtain ⟨d, hd, rfl⟩ := pushAll_one hp
      simp only [evs, List.map_cons, List.map_nil, Atom.ev_of_get b2, Atom.ev_of_get hy, Prim.ev, List.length_map] at hd
      split at hd
      · rename_i hmax
        simp only [Option.some.injEq] at hd
        subst hd
        have hl := hrd.length
        rw [hks] at hl
        obtain ⟨v', w', r1, r2, r3, r4⟩ := run_app (P := P) (ty := o.type) (z := z) ht hE.info hE.zero hE.zs hE.pos hE.bytes (by rw [hE.size]; exact b1) (by rw [hE.size]; exact hl) hnews (RdRow_one hrd) (by omega)
        rw [hE.size] at r2
        obtain ⟨ad, cap, esl⟩ := ownsRow_slice b1
        refine moved_row (σ := [_]) (va := a.eval s) hR (app_run ho hargs hat r1) b5 b6 b7 b8 b9 r3 (ownBlock_blk esl) r4 r2 (by simp [b3, hks]) (RdRow_append b4 hrd) ?_
        rw [List.map_append]
        exact get_new hR.len
      · cases hd
    split at g2
    · rename_i et0 e0 et' y hkk
      simp only [MK.row.injEq, CT.s1.injEq] at hkk
      obtain ⟨rfl, rfl⟩ := hkk
      split at g2
      · rename_i het
        subst het
        simp only [Except.ok.injEq, Prod.mk.injEq] at g2
        obtain ⟨rfl, rfl, rfl, rfl⟩ := g2
        obtain ⟨d, hy, hd⟩ := h2
        obtain ⟨m, news, ks, q1, rfl, q3, q4, _⟩ := news_of hd
        exact fin q1 hy q3 q4 hp
      · cases g2
    · rename_i et0 e0 hkk
      simp only [MK.row.injEq, CT.s1.injEq] at hkk
      obtain ⟨rfl, rfl⟩ := hkk
      simp only [Except.ok.injEq, Prod.mk.injEq] at g2
      obtain ⟨rfl, rfl, rfl, rfl⟩ := g2
      simp only [SVR, CVR, CVR0] at h2
      exact fin (m := 0) (news := []) (ks := []) (.inl ⟨h2, rfl, rfl⟩) rfl rfl rfl hp
    · rename_i et0 e0 γ hkk
      simp only [MK.row.injEq, CT.s1.injEq] at hkk
      obtain ⟨rfl, rfl⟩ := hkk
      split at g2
      · rename_i et' e1 y hγ
        split at g2
        · rename_i het
          subst het
          simp only [Except.ok.injEq, Prod.mk.injEq] at g2
          obtain ⟨rfl, rfl, rfl, rfl⟩ := g2
          have hγS : S.heap[γ]? = some (.row (.s1 et) e1 y) := by
            have hne : γ ∉ tc := fun hm => by rw [b8 γ hm] at hγ; cases hγ
            rw [← b7 γ hne]; exact hγ
          obtain ⟨_, hxv, _⟩ := h2
          obtain ⟨d, hy, hd⟩ := own_read (F := fun _ => True) hR (fun _ _ => trivial) (fun _ _ => trivial) hγS
          rw [← hxv] at hd
          obtain ⟨m, news, ks, q1, rfl, q3, q4, _⟩ := news_of hd
          exact fin q1 hy q3 q4 hp
        · cases g2
      · cases g2
    · rename_i hkk; cases hkk
    · cases g2
  · -- own rows
    obtain ⟨i, hE⟩ := elemSl_ok hel
    split at g2
    · rename_i hkk; cases hkk
    · rename_i hkk; cases hkk
    · rename_i hkk; cases hkk
    · rename_i et0 e0' e0 γ hkk
      simp only [MK.rows.injEq] at hkk
      obtain ⟨rfl, rfl, rfl⟩ := hkk
      split at g2
      · rename_i et2 f2 e2 ver2 y hγ
        split at g2
        · rename_i hc
          obtain ⟨rfl, rfl, rfl⟩ := hc
          simp only [Except.ok.injEq, Prod.mk.injEq] at g2
          obtain ⟨rfl, rfl, rfl, rfl⟩ := g2
          have hbase : ∃ n us ls, w.ownsRow 0 e2 1 (a.eval s) n us ∧ xa.get ρ = some (rowsDat et.agg ls) ∧ ls.length = n ∧ RowsD w et f2 us ls ∧ Apart us ∧ (∀ u ∈ us, ∀ b, blkOf u = some b → blkOf (a.eval s) ≠ some b) ∧
              (∀ γ ∈ tc, ∃ sb, S.heap[γ]? = some sb ∧ mineB sb = true) ∧ ha.length = S.heap.length ∧ (∀ β, β ∉ tc → ha[β]? = S.heap[β]?) ∧ (∀ γ ∈ tc, ha[γ]? = some .dead) ∧ (∀ b, (blkOf (a.eval s) = some b ∨ ∃ u ∈ us, blkOf u = some b) → ∃ γ ∈ tc, (μ γ).own b) := by
            split at g1
            · simp only [Except.ok.injEq, Prod.mk.injEq] at g1
              obtain ⟨rfl, rfl, rfl⟩ := g1
              simp only [SVR, CVR, CVR0] at h1
              rw [h1]
              exact ⟨0, [], [], ⟨by simp, .inl ⟨rfl, rfl⟩⟩, rfl, rfl, ⟨rfl, by simp⟩, by intro i; simp, by simp, by simp, rfl, fun _ _ => rfl, by simp, fun b hb => by
                rcases hb with hb | ⟨u, hu, _⟩
                · cases hb
                · simp at hu⟩
            · rename_i β
              split at g1
              · rename_i hkk; cases hkk
              · rename_i et1 f1 e1 ver1 y1 et1' f1' e1' hb hkk
                simp only [MK.rows.injEq] at hkk
                obtain ⟨rfl, rfl, rfl⟩ := hkk
                split at g1
                · rename_i hc
                  obtain ⟨rfl, rfl, rfl⟩ := hc
                  simp only [Except.ok.injEq, Prod.mk.injEq] at g1
                  obtain ⟨rfl, rfl, rfl⟩ := g1
                  obtain ⟨_, hv, _⟩ := h1
                  obtain ⟨_, n, ls, k1, _, k3, k4, k5, k6, k7⟩ := hR.blocks β _ hb
                  rw [hv]
                  refine ⟨n, (μ β).inner, ls, k1, k3, k4, k5, k6, k7, fun γ hγ => ?_, by simp, fun γ hγ => ?_, fun γ hγ => ?_, fun b hbb => ⟨β, by simp, hbb⟩⟩
                  · simp only [List.mem_singleton] at hγ; subst hγ; exact ⟨_, hb, rfl⟩
                  · rw [List.getElem?_set_ne]; simpa [eq_comm] using hγ
                  · simp only [List.mem_singleton] at hγ; subst hγ; rw [List.getElem?_set_self (List.getElem?_eq_some_iff.1 hb).1]
                · cases g1
              · cases g1
            · cases g1
          obtain ⟨n, us, ls, b1, b2, b3, b4, b5, b6, t1, t2, t3, t4, t5⟩ := hbase
          have hγt : γ ∉ tc := fun hm => by rw [t4 γ hm] at hγ; cases hγ
          have hγS : S.heap[γ]? = some (.rows et f2 e2 ver2 y) := by rw [← t3 γ hγt]; exact hγ
          have hγl : live S.heap γ := ⟨_, hγS, by simp⟩
          obtain ⟨_, hxv, _⟩ := h2
          obtain ⟨_, m, ks, c1, _, c3, c4, c5, c6, c7⟩ := hR.blocks γ _ hγS
          have hnews : News w (a.eval x) m (μ γ).inner := by
            rw [hxv]
            rcases c1.2 with ⟨q1, q2⟩ | ⟨g, cap, cur, q1, _⟩
            · refine .inl ⟨q1, q2, List.eq_nil_of_length_eq_zero ?_⟩
              simp [c1.1, q2]
            · refine .inr ⟨_, cap, q1, c1.cells (g := g) ?_⟩
              rw [q1]; rfl
          obtain ⟨d, hd, rfl⟩ := pushAll_one hp
          simp only [evs, List.map_cons, List.map_nil, Atom.ev_of_get b2, Atom.ev_of_get c3, rowsDat, Prim.ev, List.length_map] at hd
          split at hd
          · rename_i hmax
            simp only [Option.some.injEq] at hd
            subst hd
            have hone : ∀ u ∈ (μ γ).inner, u.oneCell' = true := fun u hu => by
              obtain ⟨j, hj⟩ := List.getElem?_of_mem hu
              have hlt : j < ks.length := by rw [← c5.1]; exact (List.getElem?_eq_some_iff.1 hj).1
              obtain ⟨q, ys, hq, _⟩ := c5.2 j u _ hj (List.getElem?_eq_getElem hlt)
              obtain ⟨ad, cap, e⟩ := ownsRow_slice hq
              rw [e]; rfl
            obtain ⟨v', w', r1, r2, r3, r4⟩ := run_app (P := P) (ty := o.type) (z := .slice none 0 0) ht hE.info hE.zero (by rw [hE.size]; rfl) (by rw [hE.size]; decide) hE.bytes (by rw [hE.size]; exact b1) (by rw [hE.size]; exact c1.1) hnews hone (by omega)
            rw [hE.size] at r2
            obtain ⟨ad, cap, esl⟩ := ownsRow_slice b1
            have hrow := ownBlock_blk esl
            have hnot : ∀ b, blkOf (a.eval s) = some b → ¬ (μ γ).own b := fun b hb hown => by
              obtain ⟨δ, d1, d2⟩ := t5 b (.inl hb)
              obtain ⟨sb, g3, g4⟩ := t1 δ d1
              exact hR.inj δ γ ⟨sb, g3, fun e => by subst e; cases g4⟩ hγl (fun e => hγt (by rw [← e]; exact d1)) b d2 hown
            have hT : ∀ δ ∈ γ :: tc, ∃ sb, S.heap[δ]? = some sb ∧ mineB sb = true := fun δ hδ => by
              rcases List.mem_cons.1 hδ with rfl | h
              · exact ⟨_, hγS, rfl⟩
              · exact t1 δ h
            have hγlt := (List.getElem?_eq_some_iff.1 hγ).1
            have hin : (MV.mk v' [us ++ (μ γ).inner]).inner = us ++ (μ γ).inner := rfl
            have hfr : ∀ b, (MV.mk v' [us ++ (μ γ).inner]).own b → w.heap.size ≤ b ∨ ∃ δ, δ ∈ γ :: tc ∧ (μ δ).own b := fun b hb => by
              rcases hb with hb | ⟨u, hu, hb⟩
              · rcases r4 b hb with h | h
                · exact .inl h
                · obtain ⟨δ, d1, d2⟩ := t5 b (.inl h)
                  exact .inr ⟨δ, by simp [d1], d2⟩
              · rw [hin] at hu
                rcases List.mem_append.1 hu with hu | hu
                · obtain ⟨δ, d1, d2⟩ := t5 b (.inr ⟨u, hu, hb⟩)
                  exact .inr ⟨δ, by simp [d1], d2⟩
                · exact .inr ⟨γ, by simp, .inr ⟨u, hu, hb⟩⟩
            have hdead : ∀ δ ∈ γ :: tc, (ha.set γ SB.dead)[δ]? = some .dead := fun δ hδ => by
              by_cases he : γ = δ
              · subst he; rw [List.getElem?_set_self hγlt]
              · rw [List.getElem?_set_ne he]
                rcases List.mem_cons.1 hδ with rfl | h
                · exact absurd rfl he
                · exact t4 δ h
            have mv : Move S μ w (γ :: tc) (ha.set γ .dead ++ [.rows et f2 e2 0 (.v S.n)]) (fun β => if β < S.heap.length then μ β else ⟨v', [us ++ (μ γ).inner]⟩) w' :=
              Move.fresh hT (by simp [t2]) (fun β hβ => by
                simp only [List.mem_cons, not_or] at hβ
                rw [List.getElem?_set_ne (fun e => hβ.1 e.symm)]; exact t3 β hβ.2) hdead r3.os r3.tape r3.output r3.size
                (fun b hb hno => r3.block b hb (fun e => by
                  rw [hrow] at e
                  obtain ⟨δ, d1, d2⟩ := t5 b (.inl e.symm)
                  exact hno δ (by simp [d1]) d2)) hfr
            refine ⟨_, _, _, _, app_run ho hargs hat r1, .inl rfl, mv, fun β sb hb h => ?_, ?_⟩
            · have hβ : β = S.heap.length ∨ sb = .dead := by
                have hlt := (List.getElem?_eq_some_iff.1 hb).1
                simp only [List.length_append, List.length_set, t2, List.length_cons, List.length_nil] at hlt
                rcases h with h | h
                · have hlt2 : β < S.heap.length := by obtain ⟨sb, g1, _⟩ := hT β h; exact (List.getElem?_eq_some_iff.1 g1).1
                  rw [List.getElem?_append_left (by simp; omega), hdead β h] at hb
                  simp only [Option.some.injEq] at hb
                  exact .inr hb.symm
                · left; omega
              rcases hβ with rfl | rfl
              · rw [List.getElem?_append_right (by simp [t2]), List.length_set, t2, Nat.sub_self] at hb
                simp only [List.getElem?_cons_zero, Option.some.injEq] at hb
                subst hb
                simp only [Nat.lt_irrefl, if_false]
                have hkept : ∀ {vs : List Value} {js : List (List (List D))}, RowsD w et f2 vs js → (∀ u ∈ vs, ∀ b, blkOf u = some b → blkOf (a.eval s) ≠ some b ∧ b < w.heap.size) → RowsD w' et f2 vs js := fun hh hn => hh.kept fun u hu b hb =>
                  r3.block b (hn u hu b hb).2 (fun e => (hn u hu b hb).1 (by rw [← hrow]; exact e.symm))
                have hltu : ∀ {vs : List Value} {js : List (List (List D))}, RowsD w et f2 vs js → ∀ u ∈ vs, ∀ b, blkOf u = some b → b < w.heap.size := fun hh u hu b hb => by
                  obtain ⟨j, hj⟩ := List.getElem?_of_mem hu
                  have hlt := (List.getElem?_eq_some_iff.1 hj).1
                  rw [hh.1] at hlt
                  obtain ⟨q, ys, hq, _⟩ := hh.2 j u _ hj (List.getElem?_eq_getElem hlt)
                  exact ownsRow_lt hq hb
                have hA := hkept b4 fun u hu b hb => ⟨b6 u hu b hb, hltu b4 u hu b hb⟩
                have hB := hkept c5 fun u hu b hb => ⟨fun e => hnot b e (.inr ⟨u, hu, hb⟩), hltu c5 u hu b hb⟩
                refine ⟨rfl, n + m, ls ++ ks, r2, fun b hb => ?_, ?_, by simp [b3, c4], ⟨by simp [hA.1, hB.1, hin], fun j u l hj hl => ?_⟩, ?_, ?_⟩
                · rcases hfr b hb with h1 | ⟨δ, h1, h2⟩
                  · exact .inl (Nat.le_trans hR.keeps.size h1)
                  · obtain ⟨sb, g3, g4⟩ := hT δ h1
                    exact hR.mine g3 g4 h2
                · have := get_new (ρ := ρ) (n := S.n) (d := D.lst ((ls.map fun l => D.lst (l.map (unflat et.agg))) ++ ks.map fun l => D.lst (l.map (unflat et.agg)))) hR.len
                  rw [this]; simp [rowsDat]
                · rw [hin] at hj
                  rcases Nat.lt_or_ge j us.length with hlt | hge
                  · rw [List.getElem?_append_left hlt] at hj
                    rw [List.getElem?_append_left (by rw [← hA.1]; exact hlt)] at hl
                    exact hA.2 j u l hj hl
                  · rw [List.getElem?_append_right hge] at hj
                    rw [List.getElem?_append_right (by rw [← hA.1]; exact hge), ← hA.1] at hl
                    exact hB.2 _ u l hj hl
                · rw [hin]
                  intro p q u u' hp' hq' hne b hb hb'
                  have hx1 : ∀ u ∈ us, ∀ b, blkOf u = some b → ¬ ∃ u' ∈ (μ γ).inner, blkOf u' = some b := fun u hu b hb ⟨u', hu', hb'⟩ => by
                    obtain ⟨δ, d1, d2⟩ := t5 b (.inr ⟨u, hu, hb⟩)
                    obtain ⟨sb, g3, g4⟩ := t1 δ d1
                    exact hR.inj δ γ ⟨sb, g3, fun e => by subst e; cases g4⟩ hγl (fun e => hγt (by rw [← e]; exact d1)) b d2 (.inr ⟨u', hu', hb'⟩)
                  rcases Nat.lt_or_ge p us.length with hp1 | hp1
                  · rw [List.getElem?_append_left hp1] at hp'
                    rcases Nat.lt_or_ge q us.length with hq1 | hq1
                    · rw [List.getElem?_append_left hq1] at hq'
                      exact b5 p q u u' hp' hq' hne b hb hb'
                    · rw [List.getElem?_append_right hq1] at hq'
                      exact hx1 u (List.mem_of_getElem? hp') b hb ⟨u', List.mem_of_getElem? hq', hb'⟩
                  · rw [List.getElem?_append_right hp1] at hp'
                    rcases Nat.lt_or_ge q us.length with hq1 | hq1
                    · rw [List.getElem?_append_left hq1] at hq'
                      exact hx1 u' (List.mem_of_getElem? hq') b hb' ⟨u, List.mem_of_getElem? hp', hb⟩
                    · rw [List.getElem?_append_right hq1] at hq'
                      exact c6 _ _ u u' hp' hq' (by omega) b hb hb'
                · rw [hin]
                  intro u hu b hb hb'
                  have hlt : b < w.heap.size := by
                    rcases List.mem_append.1 hu with hu | hu
                    · exact hltu b4 u hu b hb
                    · exact hltu c5 u hu b hb
                  rcases r4 b hb' with h1 | h1
                  · omega
                  · rcases List.mem_append.1 hu with hu | hu
                    · exact b6 u hu b hb h1
                    · exact hnot b h1 (.inr ⟨u, hu, hb⟩)
              · trivial
            · obtain ⟨ad, cap, e'⟩ := ownsRow_slice r2
              exact ⟨by simp [t2], by simp, ad, n + m, cap, by simp [e']⟩
          · cases hd
        · cases g2
      · cases g2
    · cases g2

end
end Vs

namespace Vs
open Go Go.RowKit

section
variable {α : Type} {Q : α → Value → D → Prop}
theorem RdCs.append' : ∀ {ts us : List α} {a b : List Value} {c d : List D}, RdCs Q ts a c → RdCs Q us b d → RdCs Q (ts ++ us) (a ++ b) (c ++ d)
  | [], _, [], _, [], _, _, h => h
  | _ :: _, _, _ :: _, _, _ :: _, _, ⟨h1, h2⟩, h => ⟨h1, h2.append' h⟩
theorem RdCs.takeN : ∀ {ts : List α} {a : List Value} {c : List D} (k : Nat), RdCs Q ts a c → RdCs Q (ts.take k) (a.take k) (c.take k)
  | ts, a, c, 0, _ => by simp [RdCs]
  | [], [], [], k + 1, _ => by simp [RdCs]
  | _ :: _, _ :: _, _ :: _, k + 1, ⟨h1, h2⟩ => ⟨h1, h2.takeN k⟩
theorem RdCs.dropN : ∀ {ts : List α} {a : List Value} {c : List D} (k : Nat), RdCs Q ts a c → RdCs Q (ts.drop k) (a.drop k) (c.drop k)
  | ts, a, c, 0, h => by simpa using h
  | [], [], [], k + 1, _ => by simp [RdCs]
  | _ :: _, _ :: _, _ :: _, k + 1, ⟨_, h2⟩ => h2.dropN k
theorem RdCs.splice {ts : List α} {a b : List Value} {c d : List D} {off sz : Nat} (h : RdCs Q ts a c) (h2 : RdCs Q ((ts.drop off).take sz) b d) : RdCs Q ts (a.take off ++ b ++ a.drop (off + sz)) (c.take off ++ d ++ c.drop (off + sz)) := by
  have h3 := ((h.takeN off).append' h2).append' (h.dropN (off + sz))
  have e : ts.take off ++ (ts.drop off).take sz ++ ts.drop (off + sz) = ts := by
    rw [List.append_assoc, ← List.drop_drop, List.take_append_drop, List.take_append_drop]
  rwa [e] at h3

theorem RdRow.setN {ts : List α} : ∀ {xs : List Value} {ls : List (List D)} {i : Nat} {c : List Value} {l : List D}, RdRow Q ts xs ls → i < ls.length → RdCs Q ts c l → RdRow Q ts (xs.take (i * ts.length) ++ c ++ xs.drop (i * ts.length + ts.length)) (ls.set i l)
  | xs, [], i, c, l, _, hi, _ => by simp at hi
  | xs, k :: ls, 0, c, l, ⟨c0, r, e, h1, h2⟩, _, hc => by
    subst e
    have hl := h1.length.1
    refine ⟨c, r, ?_, hc, h2⟩
    rw [Nat.zero_mul, Nat.zero_add, List.take_zero, List.nil_append, ← hl, List.drop_left]
  | xs, k :: ls, i + 1, c, l, ⟨c0, r, e, h1, h2⟩, hi, hc => by
    subst e
    have hl := h1.length.1
    refine ⟨c0, r.take (i * ts.length) ++ c ++ r.drop (i * ts.length + ts.length), ?_, h1, RdRow.setN h2 (by simpa using hi) hc⟩
    have e1 : (i + 1) * ts.length = c0.length + i * ts.length := by rw [hl, Nat.add_mul]; omega
    rw [e1, List.take_length_add_append, Nat.add_assoc, List.drop_length_add_append]
    simp

/-- The cells of one element. -/
theorem RdRow.elem {ts : List α} : ∀ {xs : List Value} {ls : List (List D)} {i : Nat} {l : List D}, RdRow Q ts xs ls → ls[i]? = some l → RdCs Q ts ((xs.drop (i * ts.length)).take ts.length) l
  | xs, [], i, l, _, hi => by simp at hi
  | xs, k :: ls, 0, l, ⟨c, r, e, h1, h2⟩, hi => by
    subst e
    simp only [List.getElem?_cons_zero, Option.some.injEq] at hi
    subst hi
    have hl := h1.length.1
    rw [Nat.zero_mul, List.drop_zero, ← hl, List.take_left]
    exact h1
  | xs, k :: ls, i + 1, l, ⟨c, r, e, h1, h2⟩, hi => by
    subst e
    simp only [List.getElem?_cons_succ] at hi
    have hl := h1.length.1
    have e1 : (i + 1) * ts.length = c.length + i * ts.length := by rw [hl, Nat.add_mul]; omega
    rw [e1, List.drop_length_add_append]
    exact RdRow.elem h2 hi
end

section
variable {P : Program} {X : Nat → Prop} {M : Hand} {w0 w w' : World} {S : SS} {μ μ' : Mu} {ρ : List D} {a : Act}

theorem splice_eq {xs b : List Value} {k m off sz : Nat} (h : off + sz ≤ m) (hx : k + m ≤ xs.length) :
    xs.take k ++ (((xs.drop k).take m).take off ++ b ++ ((xs.drop k).take m).drop (off + sz)) ++ xs.drop (k + m) = xs.take (k + off) ++ b ++ xs.drop (k + off + sz) := by
  have e1 : xs.take (k + off) = xs.take k ++ (xs.drop k).take off := by rw [List.take_add]
  have e2 : ((xs.drop k).take m).take off = (xs.drop k).take off := by rw [List.take_take, Nat.min_eq_left (by omega)]
  have e3 : xs.drop (k + off + sz) = ((xs.drop k).take m).drop (off + sz) ++ xs.drop (k + m) := by
    have h1 : (xs.drop k).drop (off + sz) = ((xs.drop k).take m).drop (off + sz) ++ (xs.drop k).drop m := by
      conv => lhs; rw [← List.take_append_drop m (xs.drop k)]
      rw [List.drop_append_of_le_length (by simp; omega)]
    rw [List.drop_drop, List.drop_drop] at h1
    rw [show k + off + sz = k + (off + sz) from by omega]
    exact h1
  rw [e1, e2, e3]
  simp

/-- The memory behind a store into an element. -/
theorem store_elem_world {o : Oper} {t : TypeId} {p q : Operand} {β : Nat} {sz off : Nat} {et : ET} {e : TypeId} {x : Atom} {n len cap b : Nat} {ls : List (List D)} {xs : List Value} {l' : List D} {ρ' : List D} {y : Atom} {cur : Array Value}
    (ho : o.op = .store t p q) (hR : R X M w0 S μ ρ a w) (hb : S.heap[β]? = some (.row (.s1 et) e x)) (hz : sizeB P t = some sz) (hsl : (μ β).v = .slice (some ⟨b, 0, none⟩) len cap) (hpa : a.eval p = .pointer (some ⟨b, n * et.cells.length + off, none⟩)) (hn : n < len)
    (hheap : w.heap[b]? = some (.cells cur e (0, 0))) (hcs : cur.size = cap * et.cells.length) (hlc : len ≤ cap) (hcm : cap ≤ maxLen) (htake : cur.toList.take (len * et.cells.length) = xs) (hx0 : (μ β).hist = []) (hls : ls.length = len) (hrd : RdRow RdB et.cells xs ls)
    (hcl : (a.eval q).cells.size = sz) (hoff : off + sz ≤ et.cells.length) (hone : ∀ v ∈ (a.eval q).cells.toList, v.oneCell' = true)
    (hnew : RdCs RdB et.cells (((xs.drop (n * et.cells.length)).take et.cells.length).take off ++ (a.eval q).cells.toList ++ ((xs.drop (n * et.cells.length)).take et.cells.length).drop (off + sz)) l')
    (hy : y.get ρ' = some (.lst ((ls.set n l').map (unflat et.agg)))) : HopOk P X M w0 S μ o a w ρ' SV.undef (S.heap.set β (.row (.s1 et) e y)) [β] := by
  have hfit1 : n * et.cells.length + et.cells.length ≤ len * et.cells.length := by
    have := Nat.mul_le_mul_right et.cells.length (show n + 1 ≤ len from hn)
    rwa [Nat.add_mul, Nat.one_mul] at this
  have hfit2 : len * et.cells.length ≤ cur.size := by rw [hcs]; exact Nat.mul_le_mul_right _ hlc
  have hst := run_storeCells_at P b (n * et.cells.length + off) e (a.eval q).cells.toList 0 cur w hheap (by simp; omega) hone
  simp only [Nat.add_zero] at hst
  have hown : ∀ k, (μ β).own k ↔ b = k := by
    intro k
    rw [MV.own_flat hx0, hsl]
    simp [blkOf]
  have mv : Move S μ w [β] (S.heap.set β (.row (.s1 et) e y)) μ (w.setRow b (cur.toList.take (n * et.cells.length + off) ++ (a.eval q).cells.toList ++ cur.toList.drop (n * et.cells.length + off + (a.eval q).cells.toList.length)).toArray) :=
    Move.write hb rfl rfl rfl rfl (by simp) fun k hk => setRow_other w b k _ (fun e => hk ((hown k).2 e.symm))
  refine ⟨.skip, Go.undef, μ, _, ?_, .inr ⟨rfl, rfl⟩, mv, fun γ sb hγ h => ?_, trivial⟩
  · simp [execOp, ho, hpa, Instr.storeAt, Instr.sureAddr, storeVar, sizeB_run hz, hcl] at hst ⊢
    simp [hst]
  · have hγβ : γ = β := by
      rcases h with h | h
      · simpa using h
      · have := (List.getElem?_eq_some_iff.1 hγ).1; simp at this; omega
    subst hγβ
    rw [List.getElem?_set_self (List.getElem?_eq_some_iff.1 hb).1] at hγ
    simp only [Option.some.injEq] at hγ
    subst hγ
    have hxl : xs.length = len * et.cells.length := by rw [← htake]; simp; omega
    have hset := RdRow.setN (i := n) hrd (by omega) hnew
    rw [splice_eq hoff (by rw [hxl]; omega)] at hset
    refine ⟨hx0, len, xs.take (n * et.cells.length + off) ++ (a.eval q).cells.toList ++ xs.drop (n * et.cells.length + off + sz), ls.set n l', ⟨?_, .inr ⟨b, cap, _, hsl, Nat.zero_le _, setRow_heap w b cur _ e _ hheap, hlc, hcm, ?_, ?_⟩⟩, fun b hb' => hR.mine hb rfl hb', hy, by simpa using hls, hset⟩
    · simp only [List.length_append, List.length_take, List.length_drop, Array.length_toList, hxl, hcl, rowSz]; omega
    · simp only [List.size_toArray, List.length_append, List.length_take, List.length_drop, Array.length_toList, hcl, rowSz]; omega
    · simp only [Array.length_toList, hcl, rowSz]
      rw [← htake]
      have h1 : (cur.toList.take (n * et.cells.length + off) ++ (a.eval q).cells.toList ++ cur.toList.drop (n * et.cells.length + off + sz)).take (len * et.cells.length) =
          cur.toList.take (n * et.cells.length + off) ++ (a.eval q).cells.toList ++ (cur.toList.drop (n * et.cells.length + off + sz)).take (len * et.cells.length - (n * et.cells.length + off + sz)) := by
        have hl1 : (cur.toList.take (n * et.cells.length + off) ++ (a.eval q).cells.toList).length = n * et.cells.length + off + sz := by
          simp only [List.length_append, List.length_take, Array.length_toList, hcl]; omega
        rw [List.take_append, List.take_of_length_le (by omega), hl1]
      rw [h1, List.take_take, Nat.min_eq_left (by omega), List.drop_take]

theorem proj_range {l : List D} {x : Atom} : ∀ {m k : Nat} {ρ ρ' : List D}, x.get ρ = some (.agg l) → pushAll ((List.range' k m).map fun j => (Prim.proj j, [x])) ρ = some ρ' → k + m ≤ l.length ∧ ρ' = ρ ++ (l.drop k).take m ∨ m = 0 ∧ ρ' = ρ
  | 0, k, ρ, ρ', _, h => by
    simp only [List.range'_zero, List.map_nil, pushAll, Option.some.injEq] at h
    exact .inr ⟨rfl, h.symm⟩
  | m + 1, k, ρ, ρ', hx, h => by
    left
    simp only [List.range'_succ, List.map_cons, pushAll, evs, List.map_nil, Atom.ev_of_get hx, Prim.ev] at h
    split at h
    · rename_i d hd
      have hlt := (List.getElem?_eq_some_iff.1 hd).1
      have hdr : l.drop k = d :: l.drop (k + 1) := by
        rw [List.drop_eq_getElem_cons hlt]
        congr 1
        exact (List.getElem?_eq_some_iff.1 hd).2
      rcases proj_range (Atom.get_append hx) h with ⟨h1, h2⟩ | ⟨rfl, h2⟩
      · refine ⟨by omega, ?_⟩
        rw [h2, hdr]
        simp
      · refine ⟨by omega, ?_⟩
        rw [h2, hdr]
        simp
    · cases h

theorem evs_places {ρ l : List D} : ∀ {m k : Nat}, (∀ j, j < m → ρ[k + j]? = l[j]?) → l.length = m → evs ρ ((List.range m).map fun j => Atom.v (k + j)) = l := by
  intro m k h hl
  apply List.ext_getElem?
  intro j
  simp only [evs, List.map_map, List.getElem?_map]
  by_cases hj : j < m
  · rw [List.getElem?_range hj]
    simp only [Option.map_some, Function.comp, Atom.ev]
    have h1 := h j hj
    rw [List.getElem?_eq_getElem (by omega : j < l.length)] at h1 ⊢
    rw [List.getD_eq_getElem?_getD, h1]
    rfl
  · rw [List.getElem?_eq_none (by simp; omega), List.getElem?_eq_none (by omega)]
    rfl

theorem store_elem_hop {o : Oper} {t : TypeId} {p q : Operand} {β : Nat} {i : Atom} {sz' off : Nat} {sv v : SV} {ps : List Push} {heap' : List SB} {tch : List Nat} {ρ' : List D} (ho : o.op = .store t p q) (hR : R X M w0 S μ ρ a w)
    (h1 : getSV S p = .ok (.c (.s (.eptr β i sz' off)))) (h2 : getSV S q = .ok sv) (h : hopStore P S t β i sz' off sv = .ok (v, ps, heap', tch)) (hp : pushAll ps ρ = some ρ') : HopOk P X M w0 S μ o a w ρ' v heap' tch := by
  unfold hopStore at h
  obtain ⟨sz, hz0, h0⟩ := bind_ok h
  have hz := need_ok hz0
  clear h hz0
  obtain ⟨hβ, b, len, cap, n, hsl, hi, hn0, hnlt, hpa⟩ := getSV_ok h1 hR.slots
  have hq := getSV_ok h2 hR.slots
  split at h0
  · rename_i et e x hb
    split at h0
    · rename_i ag vs hvs
      split at h0
      · rename_i hc
        obtain ⟨rfl, hvl, hoff, hpos⟩ := hc
        obtain ⟨ys, g1, g2⟩ := bind_ok h0
        clear h0
        obtain ⟨hh0, m, xs, ls, hown, _, hx, hm, hrd⟩ := hR.blocks β _ hb
        rcases hown.2 with ⟨hnil, _⟩ | ⟨g, cap', cur, hsl', _, hheap, hlc, hcm, hcs, htake⟩
        · rw [hsl] at hnil; cases hnil
        rw [hsl] at hsl'
        simp only [Value.slice.injEq, Option.some.injEq, Addr.mk.injEq, and_true] at hsl'
        obtain ⟨rfl, rfl, rfl⟩ := hsl'
        have hnl : n.toNat < ls.length := by omega
        obtain ⟨l, hl⟩ : ∃ l, ls[n.toNat]? = some l := ⟨_, List.getElem?_eq_getElem hnl⟩
        have helem := RdRow.elem hrd hl
        have hll := helem.length.2
        -- the cells of what is stored
        have hplain : vs.all plainCV = true := by
          have : ∀ {ts : List BT} {cs : List CV} {xs : List Atom}, elemPush.cellAtoms0 ts cs = .ok xs → cs.all plainCV = true := by
            intro ts
            induction ts with
            | nil => intro cs xs h; cases cs with
              | nil => rfl
              | cons c cs => simp [elemPush.cellAtoms0] at h
            | cons t ts ih =>
              intro cs xs h
              cases cs with
              | nil => simp [elemPush.cellAtoms0] at h
              | cons c cs =>
                unfold elemPush.cellAtoms0 at h
                split at h
                · rename_i heq _; cases heq
                · rename_i heq heq2
                  simp only [List.cons.injEq] at heq heq2
                  obtain ⟨rfl, rfl⟩ := heq
                  obtain ⟨rfl, rfl⟩ := heq2
                  split at h
                  · obtain ⟨ys, g1, _⟩ := bind_ok h
                    simp [plainCV, ih g1]
                  · cases h
                · cases h
          exact this g1
        have hC := svCells_ok hvs hplain hq
        obtain ⟨_, i2, i3⟩ := cellAtoms0_ok g1 hC
        have hone := CVRs_one hplain hC
        have hcl : (a.eval q).cells.size = sz := by have := hC.length; simp at this; omega
        have hnew := helem.splice (off := off) (sz := sz) i3
        have fin : ∀ {y : Atom}, y.get ρ' = some (.lst ((ls.set n.toNat (l.take off ++ evs ρ ys ++ l.drop (off + sz))).map (unflat et.agg))) → HopOk P X M w0 S μ o a w ρ' SV.undef (S.heap.set β (.row (.s1 et) e y)) [β] := fun hy =>
          store_elem_world ho hR hb hz hsl hpa (by omega) hheap hcs hlc hcm htake hh0 hm hrd hcl hoff hone hnew hy
        have push_set : ∀ {σ : List D} {z : Atom} {l' : List D}, z.get (ρ ++ σ) = some (unflat et.agg l') → pushAll [(Prim.set, [x, i, z])] (ρ ++ σ) = some ρ' → (Atom.v (ρ ++ σ).length).get ρ' = some (.lst ((ls.set n.toNat l').map (unflat et.agg))) := by
          intro σ z l' hz' hp'
          obtain ⟨d, hd, rfl⟩ := pushAll_one hp'
          simp only [evs, List.map_cons, List.map_nil, Atom.ev_of_get (Atom.get_append (σ := σ) hx), Atom.ev_of_get (Atom.get_append (σ := σ) hi), Atom.ev_of_get hz', Prim.ev, List.length_map] at hd
          rw [if_pos ⟨hn0, by omega⟩] at hd
          simp only [Option.some.injEq] at hd
          subst hd
          rw [get_new rfl]
          simp [List.map_set, rowAgg]
        split at g2
        · rename_i hag
          split at g2
          · -- a whole element
            rename_i hwhole
            simp only [Except.ok.injEq, Prod.mk.injEq] at g2
            obtain ⟨rfl, rfl, rfl, rfl⟩ := g2
            have ho0 : off = 0 := by omega
            subst ho0
            obtain ⟨σ1, p1, p2, p3⟩ := push_split (p := [(Prim.mkagg, ys)]) (q := [(Prim.set, [x, i, .v S.n])]) hp
            obtain ⟨d, hd, he⟩ := pushAll_one p1
            simp only [Prim.ev, Option.some.injEq] at hd
            subst hd
            have e1 := List.append_cancel_left he
            subst e1
            have hz' : (Atom.v S.n).get (ρ ++ [D.agg (evs ρ ys)]) = some (unflat et.agg (l.take 0 ++ evs ρ ys ++ l.drop (0 + sz))) := by
              rw [get_new hR.len]
              simp [unflat, hag]
              omega
            have := push_set hz' p3
            rw [List.length_append, hR.len] at this
            exact fin this
          · -- a part of an element
            simp only [Except.ok.injEq, Prod.mk.injEq] at g2
            obtain ⟨rfl, rfl, rfl, rfl⟩ := g2
            obtain ⟨σ0, p1, _, p2⟩ := push_split (p := [(Prim.idx, [x, i])]) (q := ((List.range et.cells.length).map fun j => (Prim.proj j, [Atom.v S.n])) ++ _) (by simpa using hp)
            obtain ⟨d, hd, he⟩ := pushAll_one p1
            simp only [evs, List.map_cons, List.map_nil, Atom.ev_of_get hx, Atom.ev_of_get hi, Prim.ev, List.length_map] at hd
            rw [if_pos ⟨hn0, by omega⟩, List.getElem?_map, hl] at hd
            simp only [Option.map_some, Option.some.injEq, rowAgg, unflat, hag, if_true] at hd
            subst hd
            have e0 := List.append_cancel_left he
            subst e0
            obtain ⟨σ1, p3, _, p4⟩ := push_split p2
            rw [List.range_eq_range'] at p3
            obtain ⟨_, e1⟩ : _ ∧ ρ ++ [D.agg l] ++ σ1 = ρ ++ [D.agg l] ++ l := by
              rcases proj_range (x := .v S.n) (l := l) (get_new hR.len) p3 with ⟨h1, h2⟩ | ⟨h1, _⟩
              · refine ⟨h1, ?_⟩
                rw [h2, List.drop_zero, ← hll, List.take_length]
              · omega
            have e1 := List.append_cancel_left e1
            subst e1
            obtain ⟨σ2, p5, _, p6⟩ := push_split (p := [(Prim.mkagg, _)]) (q := [_]) p4
            obtain ⟨d, hd, he⟩ := pushAll_one p5
            simp only [Prim.ev, Option.some.injEq] at hd
            subst hd
            have e2 := List.append_cancel_left he
            subst e2
            have hpl : evs (ρ ++ [D.agg σ1] ++ σ1) ((List.range et.cells.length).map fun j => Atom.v (S.n + 1 + j)) = σ1 :=
              evs_places (fun j hj => by
                rw [List.getElem?_append_right (by simp [hR.len])]
                congr 1
                simp [hR.len]) hll
            have hev : evs (ρ ++ [D.agg σ1] ++ σ1) (((List.range et.cells.length).map fun j => Atom.v (S.n + 1 + j)).take off ++ (ys ++ ((List.range et.cells.length).map fun j => Atom.v (S.n + 1 + j)).drop (off + sz))) = σ1.take off ++ evs ρ ys ++ σ1.drop (off + sz) := by
              have ha : ∀ (τ : List D) (p q : List Atom), evs τ (p ++ q) = evs τ p ++ evs τ q := fun τ p q => by simp [evs]
              have ht : ∀ (τ : List D) (p : List Atom) (k : Nat), evs τ (p.take k) = (evs τ p).take k := fun τ p k => by simp [evs, List.map_take]
              have hd' : ∀ (τ : List D) (p : List Atom) (k : Nat), evs τ (p.drop k) = (evs τ p).drop k := fun τ p k => by simp [evs, List.map_drop]
              rw [ha, ha, ht, hd', hpl, List.append_assoc ρ, evs_app i2, ← List.append_assoc]
            rw [hev] at p6
            have hz' : (Atom.v (S.n + 1 + et.cells.length)).get (ρ ++ ([D.agg σ1] ++ σ1 ++ [D.agg (σ1.take off ++ evs ρ ys ++ σ1.drop (off + sz))])) = some (unflat et.agg (σ1.take off ++ evs ρ ys ++ σ1.drop (off + sz))) := by
              rw [← List.append_assoc, ← List.append_assoc, get_new (by simp [hR.len, ← hll]; omega)]
              simp [unflat, hag]
            have := push_set hz' (by simpa using p6)
            rw [show (ρ ++ ([D.agg σ1] ++ σ1 ++ [D.agg (σ1.take off ++ evs ρ ys ++ σ1.drop (off + sz))])).length = S.n + 2 + et.cells.length from by simp [hR.len, ← hll]; omega] at this
            exact fin this
        · rename_i hag
          split at g2
          · rename_i y
            split at g2
            · rename_i hlen1
              simp only [Except.ok.injEq, Prod.mk.injEq] at g2
              obtain ⟨rfl, rfl, rfl, rfl⟩ := g2
              have ho0 : off = 0 := by omega
              have hs1 : sz = 1 := by omega
              subst ho0 hs1
              have hz' : y.get (ρ ++ []) = some (unflat et.agg (l.take 0 ++ evs ρ [y] ++ l.drop (0 + 1))) := by
                cases hy : y.get ρ with
                | none => exact absurd hy (i2 y (by simp))
                | some d => simp [unflat, hag, evs, Atom.ev_of_get hy, hy]
              have := push_set hz' (by simpa using hp)
              rw [List.append_nil, hR.len] at this
              exact fin this
            · cases g2
          · cases g2
      · cases h0
    · cases h0
  · rename_i et e' e ver x hb
    split at h0
    · rename_i γ
      split at h0
      · rename_i et' e'' y hγ
        split at h0
        · rename_i hc
          simp only [Except.ok.injEq, Prod.mk.injEq] at h0
          obtain ⟨rfl, rfl, rfl, rfl⟩ := h0
          obtain ⟨hne, rfl, rfl, rfl, rfl, rfl⟩ := hc
          obtain ⟨hh, m, ls, b1, _, b2, b3, b4, b5, b6⟩ := hR.blocks β _ hb
          obtain ⟨c0, k, xs, l, c1, _, c2, c3, c4⟩ := hR.blocks γ _ hγ
          obtain ⟨_, hqv, ad, len', cap', hqs⟩ := hq
          rcases b1.2 with ⟨hnil, _⟩ | ⟨g, cap0, cur, hsl', _, hheap, hlc, hcm, hcs, htake⟩
          · rw [hsl] at hnil; cases hnil
          rw [hsl] at hsl'
          simp only [Value.slice.injEq, Option.some.injEq, Addr.mk.injEq, and_true] at hsl'
          obtain ⟨rfl, rfl, rfl⟩ := hsl'
          simp only [Nat.mul_one, Nat.add_zero] at hpa hcs htake
          have hβl : live S.heap β := ⟨_, hb, by simp⟩
          have hγl : live S.heap γ := ⟨_, hγ, by simp⟩
          have hβlt := (List.getElem?_eq_some_iff.1 hb).1
          have hγlt := (List.getElem?_eq_some_iff.1 hγ).1
          have hnl : n.toNat < ls.length := by omega
          have hul : (μ β).inner.length = ls.length := b4.1
          -- the new environment
          obtain ⟨d, hd, rfl⟩ := pushAll_one hp
          simp only [evs, List.map_cons, List.map_nil, Atom.ev_of_get b2, Atom.ev_of_get hi, Atom.ev_of_get c2, rowsDat, Prim.ev, List.length_map] at hd
          rw [if_pos ⟨hn0, by omega⟩] at hd
          simp only [Option.some.injEq] at hd
          subst hd
          have hcells : (a.eval q).cells.toList = [(μ γ).v] := by rw [hqv, hqs]; rfl
          have hst := run_storeCells_at P b n.toNat e (a.eval q).cells.toList 0 cur w hheap (by rw [hcells]; simp; omega) (by rw [hcells, hqs]; simp; rfl)
          simp only [Nat.add_zero, hcells, List.length_cons, List.length_nil] at hst
          let μ' : Mu := fun δ => if δ = β then ⟨(μ β).v, (μ β).hist ++ [(μ β).inner.set n.toNat (μ γ).v]⟩ else μ δ
          have hin : (μ' β).inner = (μ β).inner.set n.toNat (μ γ).v := by simp [μ', MV.inner]
          have hμv : (μ' β).v = (μ β).v := by simp [μ']
          have hheap' : ∀ δ sb, ((S.heap.set γ .dead).set β (.rows et e'' e (ver + 1) (.v S.n)))[δ]? = some sb → (δ ∈ [β, γ] ∨ S.heap.length ≤ δ) → δ = β ∧ sb = .rows et e'' e (ver + 1) (.v S.n) ∨ δ = γ ∧ sb = .dead := by
            intro δ sb hs h
            have hlt := (List.getElem?_eq_some_iff.1 hs).1
            simp only [List.length_set] at hlt
            rcases h with h | h
            · simp only [List.mem_cons, List.not_mem_nil, or_false] at h
              rcases h with rfl | rfl
              · rw [List.getElem?_set_self (by simpa using hlt)] at hs
                simp only [Option.some.injEq] at hs
                exact .inl ⟨rfl, hs.symm⟩
              · rw [List.getElem?_set_ne (fun e => hne e.symm), List.getElem?_set_self hlt] at hs
                simp only [Option.some.injEq] at hs
                exact .inr ⟨rfl, hs.symm⟩
            · omega
          have honly : ∀ δ, live ((S.heap.set γ .dead).set β (.rows et e'' e (ver + 1) (.v S.n))) δ → (δ ∈ [β, γ] ∨ S.heap.length ≤ δ) → δ = β := by
            intro δ ⟨sb, hs, hd⟩ h
            rcases hheap' δ sb hs h with ⟨h1, _⟩ | ⟨_, h1⟩
            · exact h1
            · exact absurd h1 hd
          have hγown : ∀ k, (μ γ).own k ↔ blkOf (μ γ).v = some k := fun k => MV.own_flat c0
          have hdis : ∀ k, blkOf (μ γ).v = some k → ¬ (μ β).own k := fun k hk ho => hR.inj β γ hβl hγl (fun e => hne e.symm) k ho ((hγown k).2 hk)
          have hbb : blkOf (μ β).v = some b := by rw [hsl]; rfl
          have hset : ∀ u ∈ (μ β).inner.set n.toNat (μ γ).v, u ∈ (μ β).inner ∨ u = (μ γ).v := fun u hu => List.mem_or_eq_of_mem_set hu
          have hown' : ∀ k, (μ' β).own k → (μ β).own k ∨ (μ γ).own k := by
            intro k hk
            rcases hk with hk | ⟨u, hu, hk⟩
            · rw [hμv] at hk; exact .inl (.inl hk)
            · rw [hin] at hu
              rcases hset u hu with hu | rfl
              · exact .inl (.inr ⟨u, hu, hk⟩)
              · exact .inr (.inl hk)
          have hoth : ∀ k, k ≠ b → (w.setRow b (cur.toList.take n.toNat ++ [(μ γ).v] ++ cur.toList.drop (n.toNat + 1)).toArray).heap[k]? = w.heap[k]? := fun k hk => setRow_other w b k _ hk
          have mv : Move S μ w [β, γ] ((S.heap.set γ .dead).set β (.rows et e'' e (ver + 1) (.v S.n))) μ' (w.setRow b (cur.toList.take n.toNat ++ [(μ γ).v] ++ cur.toList.drop (n.toNat + 1)).toArray) := by
            refine ⟨fun δ hδ => ?_, by simp, fun δ hδ hn => ?_, fun δ hδ => ?_, rfl, rfl, rfl, by simp, fun k hk hn => hoth k fun e => hn β (by simp) (.inl (by rw [hbb, e])), fun δ hl h k hk => ?_, fun δ ε h1 h2 h3 h4 h5 => absurd ((honly δ h1 h3).trans (honly ε h2 h4).symm) h5⟩
            · simp only [List.mem_cons, List.not_mem_nil, or_false] at hδ
              rcases hδ with rfl | rfl
              · exact ⟨_, hb, rfl⟩
              · exact ⟨_, hγ, rfl⟩
            · simp only [List.mem_cons, List.not_mem_nil, or_false, not_or] at hn
              exact ⟨by rw [List.getElem?_set_ne (fun e => hn.1 e.symm), List.getElem?_set_ne (fun e => hn.2 e.symm)], by simp [μ', hn.1]⟩
            · by_cases he : δ = β
              · subst he; exact ⟨hμv, [(μ δ).inner.set n.toNat (μ γ).v], by simp [μ']⟩
              · exact ⟨by simp [μ', he], [], by simp [μ', he]⟩
            · have := honly δ hl h
              subst this
              rcases hown' k hk with h1 | h1
              · exact .inr ⟨δ, by simp, h1⟩
              · exact .inr ⟨γ, by simp, h1⟩
          refine ⟨.skip, Go.undef, μ', _, ?_, .inr ⟨rfl, rfl⟩, mv, fun δ sb hδ h => ?_, trivial⟩
          · have hc1 : (a.eval q).cells.size = 1 := by have := congrArg List.length hcells; simpa using this
            simp [execOp, ho, hpa, Instr.storeAt, Instr.sureAddr, storeVar, sizeB_run hz, hc1, hcells] at hst ⊢
            simp [hst]
          · rcases hheap' δ sb hδ h with ⟨rfl, rfl⟩ | ⟨rfl, rfl⟩
            · have hinb : ∀ u ∈ (μ δ).inner, ∀ k, blkOf u = some k → k ≠ b := fun u hu k hk e => b6 u hu k hk (by rw [hbb, e])
              have hgb : ∀ k, blkOf (μ γ).v = some k → k ≠ b := fun k hk e => hdis k hk (.inl (by rw [hbb, e]))
              have hA := RowsD.kept (w' := w.setRow b (cur.toList.take n.toNat ++ [(μ γ).v] ++ cur.toList.drop (n.toNat + 1)).toArray) b4 fun u hu k hk => hoth k (hinb u hu k hk)
              have hC := ownsRow_kept (w' := w.setRow b (cur.toList.take n.toNat ++ [(μ γ).v] ++ cur.toList.drop (n.toNat + 1)).toArray) c1 fun k hk => hoth k (hgb k hk)
              refine ⟨by simp [μ', hh], len, ls.set n.toNat l, ?_, fun k hk => ?_, ?_, by simpa using b3, ⟨by rw [hin]; simp [hul], fun j u l' hj hl' => ?_⟩, ?_, ?_⟩
              · rw [hμv, hin]
                refine ⟨by simp only [List.length_set]; rw [b1.1], .inr ⟨b, cap, _, hsl, Nat.zero_le _, setRow_heap w b cur _ e _ hheap, hlc, hcm, ?_, ?_⟩⟩
                · simp only [List.size_toArray, List.length_append, List.length_take, List.length_drop, Array.length_toList, List.length_cons, List.length_nil]; omega
                · rw [Nat.mul_one, ← htake, List.set_eq_take_append_cons_drop, if_pos (by simp; omega)]
                  have hl1 : (cur.toList.take n.toNat ++ [(μ γ).v]).length = n.toNat + 1 := by simp; omega
                  rw [List.take_append, List.take_of_length_le (by omega), hl1, List.take_take, Nat.min_eq_left (by omega), List.drop_take]
                  simp
              · rcases hown' k hk with h1 | h1
                · exact hR.mine hb rfl h1
                · exact hR.mine hγ rfl h1
              · rw [get_new hR.len]
                simp [rowsDat, List.map_set, rowAgg]
              · rw [hin] at hj
                by_cases he : n.toNat = j
                · subst he
                  rw [List.getElem?_set_self (by omega)] at hj hl'
                  simp only [Option.some.injEq] at hj hl'
                  subst hj hl'
                  exact ⟨k, xs, hC, c3, c4⟩
                · rw [List.getElem?_set_ne he] at hj hl'
                  exact hA.2 j u l' hj hl'
              · rw [hin]
                intro i1 i2 u u' h1 h2 h3 k hk hk'
                by_cases e1 : n.toNat = i1
                · subst e1
                  rw [List.getElem?_set_self (by omega)] at h1
                  rw [List.getElem?_set_ne h3] at h2
                  simp only [Option.some.injEq] at h1
                  subst h1
                  exact hdis k hk (.inr ⟨u', List.mem_of_getElem? h2, hk'⟩)
                · rw [List.getElem?_set_ne e1] at h1
                  by_cases e2 : n.toNat = i2
                  · subst e2
                    rw [List.getElem?_set_self (by omega)] at h2
                    simp only [Option.some.injEq] at h2
                    subst h2
                    exact hdis k hk' (.inr ⟨u, List.mem_of_getElem? h1, hk⟩)
                  · rw [List.getElem?_set_ne e2] at h2
                    exact b5 i1 i2 u u' h1 h2 h3 k hk hk'
              · rw [hin, hμv]
                intro u hu k hk hk'
                rcases hset u hu with hu | rfl
                · exact b6 u hu k hk hk'
                · exact hdis k hk (.inl hk')
            · trivial
        · cases h0
      · cases h0
    · cases h0
  · cases h0

/-- A block of one's own is given up: from now on it is only read. -/
theorem Move.kill {β : Nat} {sb : SB} (hs : S.heap[β]? = some sb) (hm : mineB sb = true) : Move S μ w [β] (S.heap.set β .dead) μ w := by
  have hlt := (List.getElem?_eq_some_iff.1 hs).1
  have only : ∀ γ, live (S.heap.set β .dead) γ → ¬ (γ ∈ [β] ∨ S.heap.length ≤ γ) := by
    intro γ hl h
    rcases h with h | h
    · simp only [List.mem_singleton] at h
      subst h
      obtain ⟨s, h1, h2⟩ := hl
      rw [List.getElem?_set_self hlt] at h1
      simp only [Option.some.injEq] at h1
      exact h2 h1.symm
    · have := live_lt hl; simp at this; omega
  refine ⟨fun γ hγ => ?_, by simp, fun γ _ hn => ⟨?_, rfl⟩, fun _ _ => ⟨rfl, [], by simp⟩, rfl, rfl, rfl, Nat.le_refl _, fun b _ _ => rfl, fun γ hl h => absurd h (only γ hl), fun γ δ hγ _ h4 => absurd h4 (only γ hγ)⟩
  · simp only [List.mem_singleton] at hγ; subst hγ; exact ⟨sb, hs, hm⟩
  · rw [List.getElem?_set_ne]; simpa [eq_comm] using hn

theorem R.freed (hR : R X M w0 S μ ρ a w) {β : Nat} {sb : SB} (hs : S.heap[β]? = some sb) (hm : mineB sb = true) : (∀ b, Fz X S.heap μ w b → Fz X (S.heap.set β .dead) μ w b) ∧ ∀ b, (μ β).own b → Fz X (S.heap.set β .dead) μ w b := by
  have hlt := (List.getElem?_eq_some_iff.1 hs).1
  have hβl : live S.heap β := ⟨sb, hs, fun e => by subst e; cases hm⟩
  have hl : ∀ γ, live (S.heap.set β .dead) γ → γ ≠ β ∧ live S.heap γ := by
    intro γ ⟨s, h1, h2⟩
    by_cases he : γ = β
    · subst he
      rw [List.getElem?_set_self hlt] at h1
      simp only [Option.some.injEq] at h1
      exact absurd h1.symm h2
    · rw [List.getElem?_set_ne (fun e => he e.symm)] at h1
      exact ⟨he, s, h1, h2⟩
  exact ⟨fun b hb => ⟨hb.1, fun γ hγ => hb.2 γ (hl γ hγ).2⟩, fun b hb => ⟨⟨hR.own_lt hβl hb, hR.exo β hβl b hb⟩, fun γ hγ => hR.inj β γ hβl (hl γ hγ).2 (fun e => (hl γ hγ).1 e.symm) b hb⟩⟩

theorem freeze_hop {o : Oper} {t : TypeId} {x : Operand} {lo hi : Option Operand} {β : Nat} {sb : SB} {slo shi : Option SV} {l : Atom} {ct : CT} {v : SV} {ps : List Push} {ρ' : List D} (ho : o.op = .slice t x lo hi none) (hR : R X M w0 S μ ρ a w)
    (h1 : getSV S x = .ok (.c (.s (.own β)))) (hlo : OptR (SVR w (Fz X S.heap μ w) S.heap.length μ ρ) slo (lo.map a.eval)) (hhi : OptR (SVR w (Fz X S.heap μ w) S.heap.length μ ρ) shi (hi.map a.eval))
    (hs : S.heap[β]? = some sb) (hm : mineB sb = true) {ds : List D} (hl : l.get ρ = some (.lst ds)) (hrd : RdC w (Fz X (S.heap.set β .dead) μ w) ct (μ β).v (.lst ds))
    (h : lopSlice P S.n t l ct slo shi = .ok (v, ps)) (hp : pushAll ps ρ = some ρ') : HopOk P X M w0 S μ o a w ρ' v (S.heap.set β .dead) [β] := by
  have mv := Move.kill (μ := μ) (w := w) hs hm
  have hg := mv.grows (X := X) (ρ := ρ)
  have opt : ∀ {so : Option SV} {y : Option Value}, OptR (SVR w (Fz X S.heap μ w) S.heap.length μ ρ) so y → OptR (SVR w (Fz X (S.heap.set β .dead) μ w) (S.heap.set β .dead).length μ ρ) so y := by
    intro so y h
    cases so with
    | none => cases y with
      | none => trivial
      | some _ => exact h.elim
    | some s => cases y with
      | none => exact h.elim
      | some u => exact SVR.mono hg h
  obtain ⟨_, hv, _⟩ := getSV_ok h1 hR.slots
  rw [← hR.len] at h
  rw [← hv] at hrd
  obtain ⟨u, hu, hr⟩ := lopSlice_ok (P := P) h hl hrd (opt hlo) (opt hhi) hp
  refine ⟨_, u, μ, w, ?_, .inl rfl, mv, fun γ sb' hγ h => ?_, hr⟩
  · simp [execOp, ho, hu]
  · have hlt := (List.getElem?_eq_some_iff.1 hs).1
    rcases h with h | h
    · simp only [List.mem_singleton] at h
      subst h
      rw [List.getElem?_set_self hlt] at hγ
      simp only [Option.some.injEq] at hγ
      subst hγ
      trivial
    · have := (List.getElem?_eq_some_iff.1 hγ).1; simp at this; omega

end
end Vs

namespace Vs
open Go Go.RowKit

section
variable {P : Program} {X : Nat → Prop} {M : Hand} {w0 w : World} {S : SS} {μ : Mu} {ρ : List D} {a : Act}

theorem isSome_false {g : Guard} (h : g.isSome = false) : g = none := by cases g with | none => rfl | some _ => cases h

theorem optSV {y : Option Operand} {so : Option SV} (hS : ∀ (i : Nat) s, S.slots[i]? = some s → SVR w (Fz X S.heap μ w) S.heap.length μ ρ s (a.tmps.getD i Go.undef))
    (hy : (match y with | none => .ok none | some y => (do let v ← getSV S y; Except.ok (some v) : Res (Option SV)) : Res (Option SV)) = .ok so) : OptR (SVR w (Fz X S.heap μ w) S.heap.length μ ρ) so (y.map a.eval) := by
  cases y with
  | none => simp only [Except.ok.injEq] at hy; subst hy; trivial
  | some y =>
    obtain ⟨v', g1, g2⟩ := bind_ok hy
    simp only [Except.ok.injEq] at g2
    subst g2
    exact getSV_ok g1 hS

theorem hop_ok {o : Oper} {v : SV} {ps : List Push} {heap' : List SB} {tch : List Nat} {ρ' : List D} (h : hop P S o = .ok (v, ps, heap', tch)) (hR : R X M w0 S μ ρ a w) (hp : pushAll ps ρ = some ρ') : HopOk P X M w0 S μ o a w ρ' v heap' tch := by
  unfold hop at h
  split at h
  · -- box
    rename_i t x ho
    obtain ⟨s, h2, h3⟩ := bind_ok h
    split at h3
    · rename_i ag cs hcs
      split at h3
      · rename_i hpl
        simp only [Except.ok.injEq, Prod.mk.injEq] at h3
        obtain ⟨rfl, rfl, rfl, rfl⟩ := h3
        simp only [pushAll, Option.some.injEq] at hp
        subst hp
        refine box_hop (T := t) hR ?_ (svCells_ok hcs hpl (getSV_ok h2 hR.slots))
        simp [execOp, ho, Instr.box, newVar, newRow]
      · cases h3
    · cases h3
  · -- alloc
    rename_i t ho
    obtain ⟨i, h2, h3⟩ := bind_ok h
    obtain ⟨z, h4, h5⟩ := bind_ok h3
    obtain ⟨cs, h6, h7⟩ := bind_ok h5
    simp only [Except.ok.injEq, Prod.mk.injEq] at h7
    obtain ⟨rfl, rfl, rfl, rfl⟩ := h7
    simp only [pushAll, Option.some.injEq] at hp
    subst hp
    refine box_hop (T := t) hR ?_ (litCells_ok (need_ok h6))
    simp [execOp, ho, Instr.alloc, zeroValue, typeInfo, need_ok h2, need_ok h4, newVar, newRow]
  · -- store
    rename_i t p x ho
    obtain ⟨pa, h2, h3⟩ := bind_ok h
    obtain ⟨s, h4, h5⟩ := bind_ok h3
    split at h5
    · rename_i β off
      obtain ⟨sz, h6, h7⟩ := bind_ok h5
      split at h7
      · rename_i ag vs hvs
        split at h7
        · rename_i cs hcs
          split at h7
          · rename_i hlen
            simp only [Except.ok.injEq, Prod.mk.injEq] at h7
            obtain ⟨rfl, rfl, rfl, rfl⟩ := h7
            simp only [pushAll, Option.some.injEq] at hp
            subst hp
            exact store_var_hop ho hR h2 h4 (need_ok h6) hvs hcs hlen
          · cases h7
        · cases h7
      · cases h7
    · exact store_elem_hop ho hR h2 h4 h5 hp
    · cases h5
  · -- a slice that is written out
    rename_i t len parts ho
    obtain ⟨l, h2, h3⟩ := bind_ok h
    exact build_hop ho hR h2 h3 hp
  · -- a slice that is made
    rename_i t l c ho
    obtain ⟨sa, h2, h3⟩ := bind_ok h
    obtain ⟨sb, h4, h5⟩ := bind_ok h3
    exact make_hop ho hR h2 h4 h5 hp
  · -- append
    rename_i args ats ho
    obtain ⟨ss, h2, h3⟩ := bind_ok h
    split at h3
    · rename_i sa sb t t' hat
      split at h3
      · rename_i ht
        subst ht
        obtain ⟨hl, hx⟩ := getSVs_ok (g := none) rfl hR.slots h2
        obtain ⟨s, x, hargs⟩ : ∃ s x, args.toList = [s, x] := by
          match e : args.toList, hl with
          | [s, x], _ => exact ⟨s, x, rfl⟩
        rw [hargs] at hx
        exact append_hop ho hargs hat hR (hx 0 _ _ rfl rfl) (hx 1 _ _ rfl rfl) h3 hp
      · cases h3
    · cases h3
  · -- a part of an own slice, which is read from now on
    rename_i t x lo hi ho
    obtain ⟨s, h2, h3⟩ := bind_ok h
    split at h3
    · rename_i β
      obtain ⟨slo, h4, h5⟩ := bind_ok h3
      obtain ⟨shi, h6, h7⟩ := bind_ok h5
      split at h7
      · rename_i et e l hs
        obtain ⟨⟨v', ps'⟩, h8, h9⟩ := bind_ok h7
        simp only [Except.ok.injEq, Prod.mk.injEq] at h9
        obtain ⟨rfl, rfl, rfl, rfl⟩ := h9
        obtain ⟨f1, f2⟩ := hR.freed hs rfl
        obtain ⟨d, hd, hrd⟩ := own_read hR f1 f2 hs
        obtain ⟨ls, e1, _⟩ := rowRd_sl hrd (fun b e => by cases e)
        subst e1
        exact freeze_hop ho hR h2 (optSV hR.slots h4) (optSV hR.slots h6) hs rfl hd hrd h8 hp
      · rename_i et e' e ver l hs
        obtain ⟨⟨v', ps'⟩, h8, h9⟩ := bind_ok h7
        simp only [Except.ok.injEq, Prod.mk.injEq] at h9
        obtain ⟨rfl, rfl, rfl, rfl⟩ := h9
        obtain ⟨f1, f2⟩ := hR.freed hs rfl
        obtain ⟨_, n, ls, b1, _, b2, b3, b4, _, _⟩ := hR.blocks β _ hs
        exact freeze_hop ho hR h2 (optSV hR.slots h4) (optSV hR.slots h6) hs rfl b2 (ownRows_read b1 b3 b4 f2) h8 hp
      · cases h7
    · cases h3
  · cases h

theorem callee_ok {fo : Operand} {f : FuncId} {caps : List SV} {o : Oper} {args : Array Operand} {ats : Array TypeId} (h : calleeOf S fo = .ok (f, caps)) (hR : R X M w0 S μ ρ a w) (ho : o.op = .call { callee := .value fo, args, argTypes := ats }) :
    ∃ cs : List Value, cs.length = caps.length ∧ (∀ (j : Nat) s u, caps[j]? = some s → cs[j]? = some u → SVR w (Fz X S.heap μ w) S.heap.length μ ρ s u) ∧ execOp a.eval o = callFunc f (args.toList.map a.eval ++ cs).toArray := by
  have e2 : ∀ cs : Array Value, (#[] ++ args.map a.eval ++ cs : Array Value) = (args.toList.map a.eval ++ cs.toList).toArray := fun cs => by apply Array.ext'; simp
  unfold calleeOf at h
  split at h
  · simp only [Except.ok.injEq, Prod.mk.injEq] at h
    obtain ⟨rfl, rfl⟩ := h
    refine ⟨[], rfl, by simp, ?_⟩
    have := e2 #[]
    rw [show ([] : List Value) = (#[] : Array Value).toList from rfl, ← this]
    obtain ⟨dst, op, ty, pos, after, guard⟩ := o
    simp only at ho
    subst ho
    rfl
  · rename_i t
    obtain ⟨s, h1, h2⟩ := bind_ok h
    split at h2
    · rename_i f' cs0
      simp only [Except.ok.injEq, Prod.mk.injEq] at h2
      obtain ⟨rfl, rfl⟩ := h2
      obtain ⟨cs, hv, hl, hc⟩ := getSV_ok h1 hR.slots
      refine ⟨cs.toList, by simp [hl], fun j s u hj hu => ?_, ?_⟩
      · rw [List.getElem?_map] at hj
        cases hcj : cs0[j]? with
        | none => rw [hcj] at hj; cases hj
        | some c =>
          rw [hcj] at hj
          simp only [Option.map_some, Option.some.injEq] at hj
          subst hj
          exact hc j c u hcj (by simpa using hu)
      · rw [← e2]
        obtain ⟨dst, op, ty, pos, after, guard⟩ := o
        simp only at ho
        subst ho
        have hv' : a.eval (Operand.tmp t) = _ := hv
        show (do let d ← Deferred.ofValue (a.eval (.tmp t)) (args.map a.eval); invoke d.target d.args) = _
        rw [hv']
        rfl
    · cases h2
  · cases h

theorem sop_ok {E : Env} {G : Nat → List D → Option (List D)} (hE : EnvOk E G) {ops : Array Oper} {o : Oper} {S' : SS} {g : Guard} {eff : Eff} {tch : List Nat} (h : sop E ops.toList S o = .ok (S', g, eff, tch)) (hR : R X M w0 S μ ρ a w) :
    Region.wanted o (yielded ops a.tmps) = g.ok ρ ∧ (∀ x want, g = some (x, want) → x.get ρ ≠ none) ∧
    (g.ok ρ = false → S'.heap = S.heap ∧ tch = [] ∧ R X M w0 S' μ (ρ ++ List.replicate (effLen eff) .undef) (a.put o.dst Go.undef) w) ∧
    (g.ok ρ = true → ∀ ρ', effRun G ρ eff = some ρ' → StepOk E.P X M w0 S μ S' o tch a w ρ') := by
  unfold sop at h
  obtain ⟨g', hg0, h1⟩ := bind_ok h
  obtain ⟨hw, hgg⟩ := guardOf_ok hg0 hR
  clear h
  split at h1
  · -- a local operation
    rename_i r hl
    dsimp only at h1
    cases hop : ownPlace S.n g' r with
    | mk v ps =>
    rw [hop] at h1
    dsimp only at h1
    split at h1
    · cases h1
    · rename_i hfr
      obtain ⟨slots, hp, h2⟩ := bind_ok h1
      simp only [Except.ok.injEq, Prod.mk.injEq] at h2
      obtain ⟨rfl, rfl, rfl, rfl⟩ := h2
      refine ⟨hw, hgg, fun hno => ?_, fun hok ρ' hp' => ?_⟩
      · refine ⟨rfl, rfl, R_skip hR hgg hno hp ?_⟩
        cases hgs : g'.isSome with
        | false => rw [isSome_false hgs] at hno; cases hno
        | true =>
          cases hf : freshSV S.n ps.length v with
          | true => rfl
          | false => exact absurd ⟨hgs, hf⟩ hfr
      · obtain ⟨u, w', hr, q, hv⟩ := lop_place hE.ext hl hop hR hok hp'
        obtain ⟨σ, rfl, hσ⟩ := pushAll_env hp'
        have h3 := R_env hR σ
        rw [hσ] at h3
        have hgg' : ∀ x want, g' = some (x, want) → x.get (ρ ++ σ) ≠ none := fun x want e => by
          have := hgg x want e
          cases hx : x.get ρ with
          | none => exact absurd hx this
          | some d => rw [Atom.get_append hx]; simp
        have h4 := R_put (dst := o.dst) (v := wrapG g' v) (slots := slots) h3 (by exact hp) (wrapG_ok hgg' (by rw [guard_append hgg]; exact hok) hv)
        exact step_value hr (R_quiet h4 q) (Move.none q.heap q.os q.tape q.output)
  · rename_i why hl
    split at h1
    · -- a call
      rename_i fo args ats ho
      obtain ⟨⟨f, caps⟩, h0, h1⟩ := bind_ok h1
      dsimp only at h1
      split at h1
      · rename_i key sg hsg
        obtain ⟨ss, h2, h3⟩ := bind_ok h1
        obtain ⟨ar, h4, h5⟩ := bind_ok h3
        cases haf : afterMA ar.mas (S.n + ar.pre.length + resCount sg.results) (S.n + ar.pre.length + (resCount sg.results + sg.keeps.length)) S.heap with
        | mk hE' post =>
        rw [haf] at h5
        dsimp only at h5
        cases hra : resAll sg.results (S.n + ar.pre.length) S.heap.length with
        | mk rs bs =>
        rw [hra] at h5
        dsimp only at h5
        obtain ⟨v, h6, h7⟩ := bind_ok h5
        split at h7
        · cases h7
        · rename_i hown
          split at h7
          · cases h7
          · rename_i hfr
            obtain ⟨slots, hp, h8⟩ := bind_ok h7
            simp only [Except.ok.injEq, Prod.mk.injEq] at h8
            obtain ⟨rfl, rfl, rfl, rfl⟩ := h8
            refine ⟨hw, hgg, fun hno => ?_, fun hok ρ' hp' => ?_⟩
            · cases hgs : g'.isSome with
              | false => rw [isSome_false hgs] at hno; cases hno
              | true =>
                have hb : bs = [] := by
                  cases hbe : bs.isEmpty with
                  | true => simpa using hbe
                  | false => exact absurd ⟨hgs, .inl hbe⟩ hfr
                have hm : ar.mas = [] := by
                  cases hbe : ar.mas.isEmpty with
                  | true => simpa using hbe
                  | false => exact absurd ⟨hgs, .inr (.inl hbe)⟩ hfr
                have hpre : ar.pre = [] := by
                  cases hbe : ar.pre.isEmpty with
                  | true => simpa using hbe
                  | false => exact absurd ⟨hgs, .inr (.inr (.inl hbe))⟩ hfr
                have hf : freshSV (S.n + ar.pre.length) (resCount sg.results + sg.keeps.length) v = true := by
                  cases hf : freshSV (S.n + ar.pre.length) (resCount sg.results + sg.keeps.length) v with
                  | true => rfl
                  | false => exact absurd ⟨hgs, .inr (.inr (.inr hf))⟩ hfr
                rw [hm] at haf
                simp only [afterMA, Prod.mk.injEq] at haf
                obtain ⟨rfl, rfl⟩ := haf
                rw [hpre] at hf
                subst hb
                have := R_skip hR hgg hno hp hf
                exact ⟨by simp, by simp [hm], by simpa [effLen, hpre] using this⟩
            · simp only [effRun] at hp'
              cases hpre : pushAll ar.pre ρ with
              | none => rw [hpre] at hp'; cases hp'
              | some ρ1 =>
              rw [hpre, Option.bind_some] at hp'
              obtain ⟨σ1, rfl, hσ1⟩ := pushAll_env hpre
              split at hp'
              · rename_i ds hds
                split at hp'
                · rename_i hcnt
                  obtain ⟨cs, c1, c2, c3⟩ := callee_ok h0 hR ho
                  obtain ⟨s1, s2⟩ := getSVs_ok hok hR.slots h2
                  simp only [not_or, Decidable.not_not, Bool.not_eq_true, List.any_eq_false, List.contains_iff_mem] at hown
                  have hc := call_ok (vs := args.toList.map a.eval ++ cs) (ss := ss ++ caps) (hE.sig _ _ _ hsg) (by rw [c3]) hR hok hgg (by simp [s1, c1])
                    (fun j s u hj hu => by
                      rcases Nat.lt_or_ge j ss.length with hlt | hge
                      · rw [List.getElem?_append_left hlt] at hj
                        rw [List.getElem?_append_left (by simpa [s1] using hlt)] at hu
                        exact s2 j s u hj hu
                      · rw [List.getElem?_append_right hge] at hj
                        rw [List.getElem?_append_right (by simpa [s1] using hge)] at hu
                        refine c2 _ s u hj ?_
                        simpa [s1] using hu)
                    h4 haf hown.1 hown.2 (v := v) (by rw [hra]; exact need_ok h6) hp hpre hds hcnt hp'
                  obtain ⟨σ2, e2, hσ2⟩ := pushAll_env hp'
                  rw [hra] at hc
                  have hlen : ρ'.length = S.n + ar.pre.length + (resCount sg.results + sg.keeps.length) + post.length := by
                    rw [e2]; simp only [List.length_append, hσ1, hσ2, hcnt, hR.len]
                  rw [hlen] at hc
                  exact hc
                · cases hp'
              · cases hp'
      · cases h1
    · -- an operation on the heap
      split at h1
      · cases h1
      · rename_i hgs
        have hg := isSome_false (by simpa using hgs)
        subst hg
        obtain ⟨⟨v, ps, heap', tc⟩, h2, h3⟩ := bind_ok h1
        dsimp only at h3
        obtain ⟨slots, hp, h4⟩ := bind_ok h3
        simp only [Except.ok.injEq, Prod.mk.injEq] at h4
        obtain ⟨rfl, rfl, rfl, rfl⟩ := h4
        refine ⟨hw, hgg, fun hno => (by cases hno), fun _ ρ' hp' => ?_⟩
        simp only [effRun] at hp'
        have hk := hop_ok h2 hR hp'
        obtain ⟨σ, rfl, hσ⟩ := pushAll_env hp'
        have := hop_step hk hR hp
        rw [hσ] at this
        exact this

end
end Vs

namespace Vs
open Go Go.RowKit

/-- Equality of the constants that occur; 'false' where it is not seen. -/
def D.eqb : D → D → Bool
  | .int a, .int b => a == b
  | .bool a, .bool b => a == b
  | .flt a, .flt b => a == b
  | .lst [], .lst [] => true
  | _, _ => false

theorem D.eqb_ok {a b : D} (h : D.eqb a b = true) : a = b := by
  unfold D.eqb at h
  split at h
  · simp only [beq_iff_eq] at h; rw [h]
  · simp only [beq_iff_eq] at h; rw [h]
  · simp only [beq_iff_eq] at h; rw [h]
  · rfl
  · cases h

def Atom.eqb : Atom → Atom → Bool
  | .v i, .v j => i == j
  | .c a, .c b => D.eqb a b
  | _, _ => false
theorem Atom.eqb_ok {a b : Atom} (h : Atom.eqb a b = true) : a = b := by
  unfold Atom.eqb at h
  split at h
  · simp only [beq_iff_eq] at h; rw [h]
  · rw [D.eqb_ok h]
  · cases h

/-- How the places and blocks behind n and hb are filled. -/
structure Fill where
  n : Nat
  hb : Nat
  hj : Nat
  θ : List Atom
  bs : List Nat
  nils : List MK
  ver : List (Option Nat)

def Fill.blk (f : Fill) (β : Nat) : Nat := if β < f.hb then β else f.bs.getD (β - f.hb) 0
def Fill.blkOk (f : Fill) (β : Nat) : Bool := decide (β < f.hj) && (decide (β < f.hb) || decide (β - f.hb < f.bs.length))

def leAtom (f : Fill) : Atom → Atom → Bool
  | .v j, y => if j < f.n then Atom.eqb (.v j) y else (match f.θ[j - f.n]? with | some z => Atom.eqb z y | none => false)
  | .c d, y => Atom.eqb (.c d) y

def leFC (f : Fill) : FC → FC → Bool
  | .d t x, .d u y => decide (t = u) && leAtom f x y
  | .o β, .o γ => f.blkOk β && f.blk β == γ
  | _, _ => false

def leList {α : Type} (le : α → α → Bool) : List α → List α → Bool
  | [], [] => true
  | a :: r, b :: q => le a b && leList le r q
  | _, _ => false

/-- 'hl': how many blocks the other state has without the empty rows. -/
def leCV0 (f : Fill) (hl : Nat) : CV0 → CV0 → Bool
  | .undef, _ => true
  | .nils, .nils => true
  | .dat t x, .dat u y => decide (t = u) && leAtom f x y
  | .dat t x, .nils => (match t with | .b _ => false | _ => leAtom f x (.c (.lst [])))
  | .own β, .own γ => f.blkOk β && f.blk β == γ
  | .own β, .nils => f.blkOk β && decide (hl ≤ f.blk β) && decide (f.blk β < hl + f.nils.length)
  | .vptr β o, .vptr γ p => f.blkOk β && f.blk β == γ && o == p
  | .eptr β i s o, .eptr γ j s' p => f.blkOk β && f.blk β == γ && leAtom f i j && s == s' && o == p
  | .rref β v i, .rref γ v' j => f.blkOk β && f.blk β == γ && leAtom f i j && v == 0 && decide (f.ver[γ]? = some (some v'))
  | .fcel cs o, .fcel ds p => leList (leFC f) cs ds && o == p
  | _, _ => false

def leCV (f : Fill) (hl : Nat) : CV → CV → Bool
  | .s .undef, _ => true
  | .s c, .s d => leCV0 f hl c d
  | .fn g cs, .fn g' ds => g == g' && leList (leCV0 f hl) cs ds
  | _, _ => false

def leP (f : Fill) (hl : Nat) (a b : Bool × List CV) : Bool := a.1 == b.1 && leList (leCV f hl) a.2 b.2

def leSV (f : Fill) (hl : Nat) : SV → SV → Bool
  | .c (.s .undef), _ => true
  | .c x, .c y => leCV f hl x y
  | .agg xs, .agg ys => leList (leCV f hl) xs ys
  | .tup xs, .tup ys => leList (leP f hl) xs ys
  | _, _ => false

def leSB (f : Fill) (hl : Nat) : SB → SB → Bool
  | .dead, _ => true
  | .var xs, .var ys => leList (leCV f hl) xs ys
  | .row t e x, .row t' e' y => decide (t = t') && e == e' && leAtom f x y
  | .rows et f' e v x, .rows et' g' e' _ y => decide (et = et') && f' == g' && e == e' && v == 0 && leAtom f x y
  | _, _ => false

def liveB (h : List SB) (β : Nat) : Bool := match h[β]? with | some .dead => false | some _ => true | none => false

def verOf : SB → Option Nat | .rows _ _ _ v _ => some v | _ => none
def MK.nilMV : MK → MV
  | .row _ _ => ⟨.slice none 0 0, []⟩
  | .rows _ _ _ => ⟨.slice none 0 0, [[]]⟩
def MK.slOk : MK → Bool
  | .row (.b _) _ => false
  | _ => true
/-- An own thing without its past. -/
def MV.now (m : MV) : MV := ⟨m.v, if m.hist.isEmpty then [] else [m.inner]⟩
theorem MV.now_inner {m : MV} : m.now.inner = m.inner := by
  unfold MV.now MV.inner
  cases h : m.hist with
  | nil => rfl
  | cons _ _ => rfl
theorem MV.now_own {m : MV} {b : Nat} : m.now.own b ↔ m.own b := by unfold MV.own; rw [MV.now_inner]; rfl
theorem MV.now_nil {m : MV} (h : m.hist = []) : m.now = m := by
  obtain ⟨v, hist⟩ := m
  simp only at h
  subst h
  rfl

def atomIn (n : Nat) : Atom → Bool | .v i => i < n | .c _ => true

/-- Whether state Sj holds where S does, the places behind f.n filled. -/
def leSS (f : Fill) (Sj S : SS) : Bool :=
  let h := S.heap ++ f.nils.map fun k => k.sb 0 (.c (.lst []))
  Sj.n == f.n + f.θ.length && f.n ≤ S.n && f.θ.all (atomIn S.n) && leList (leSV f S.heap.length) Sj.slots S.slots &&
  f.nils.all MK.slOk && decide (f.ver = h.map verOf) &&
  decide (f.hb ≤ S.heap.length) && decide (f.hb ≤ Sj.heap.length) &&
  (List.range Sj.heap.length).all (fun β => match Sj.heap[β]? with
    | some sb => (match sb with | .dead => true | _ => f.blkOk β && (match h[f.blk β]? with | some sb' => leSB f S.heap.length sb sb' | none => false))
    | none => true) &&
  f.hj == Sj.heap.length &&
  (let im := ((List.range Sj.heap.length).filter (liveB Sj.heap)).map f.blk; decide (im.Nodup))

section
variable {X : Nat → Prop} {M : Hand} {w0 w : World} {S : SS} {μ : Mu} {ρ : List D} {a : Act}

/-- Empty rows beside: nobody owns a block through them. -/
theorem R_nils {μ1 : Mu} (h : R X M w0 S μ ρ a w) (nils : List MK) (hn : ∀ k ∈ nils, k.slOk = true) (hμ : ∀ β, β < S.heap.length → μ1 β = μ β) (hv : ∀ j k, nils[j]? = some k → μ1 (S.heap.length + j) = k.nilMV) :
    R X M w0 { S with heap := S.heap ++ nils.map fun k => k.sb 0 (.c (.lst [])) } μ1 ρ a w := by
  have hnew : ∀ β, live (S.heap ++ nils.map fun k => k.sb 0 (.c (.lst []))) β → S.heap.length ≤ β → ∃ k ∈ nils, μ1 β = k.nilMV := by
    intro β hl hge
    have hlt := live_lt hl
    simp only [List.length_append, List.length_map] at hlt
    obtain ⟨k, hk⟩ : ∃ k, nils[β - S.heap.length]? = some k := ⟨_, List.getElem?_eq_getElem (by omega)⟩
    have := hv _ k hk
    rw [show S.heap.length + (β - S.heap.length) = β from by omega] at this
    exact ⟨k, List.mem_of_getElem? hk, this⟩
  have hno : ∀ (k : MK) (b : Nat), ¬ k.nilMV.own b := by
    intro k b hb
    cases k <;> rcases hb with hb | ⟨u, hu, hb⟩ <;> simp [MK.nilMV, blkOf, MV.inner] at *
  have m : Move S μ w [] (S.heap ++ nils.map fun k => k.sb 0 (.c (.lst []))) μ1 w := by
    refine ⟨by simp, by simp, fun β hβ _ => ⟨List.getElem?_append_left hβ, hμ β hβ⟩, fun β hβ => ⟨by rw [hμ β hβ], [], by simp [hμ β hβ]⟩, rfl, rfl, rfl, Nat.le_refl _, fun _ _ _ => rfl, fun β hl h b hb => ?_, fun β γ hl _ h _ _ b hb => ?_⟩
    · rcases h with h | h
      · simp at h
      · obtain ⟨k, _, e⟩ := hnew β hl h
        rw [e] at hb; exact absurd hb (hno k b)
    · rcases h with h | h
      · simp at h
      · obtain ⟨k, _, e⟩ := hnew β hl h
        rw [e] at hb; exact absurd hb (hno k b)
  refine R_move h m fun _ β sb hb hβ => ?_
  have hge : S.heap.length ≤ β := by
    rcases hβ with h | h
    · simp at h
    · exact h
  rw [List.getElem?_append_right hge, List.getElem?_map] at hb
  cases hk : nils[β - S.heap.length]? with
  | none => rw [hk] at hb; cases hb
  | some k =>
    rw [hk] at hb
    simp only [Option.map_some, Option.some.injEq] at hb
    subst hb
    have := hv _ k hk
    rw [show S.heap.length + (β - S.heap.length) = β from by omega] at this
    rw [this]
    have hs := hn k (List.mem_of_getElem? hk)
    cases k with
    | row t e =>
      refine ⟨rfl, 0, [], [], ⟨by simp, .inl ⟨rfl, rfl⟩⟩, fun b hb => absurd hb (hno _ b), rfl, rfl, ?_⟩
      cases t with
      | b t => cases hs
      | s1 e => rfl
      | s2 e => rfl
    | rows et e' e =>
      refine ⟨rfl, 0, [], ⟨by simp [MK.nilMV, MV.inner], .inl ⟨rfl, rfl⟩⟩, fun b hb => absurd hb (hno _ b), rfl, rfl, ⟨rfl, fun i u l hi => ?_⟩, fun i j u u' hi => ?_, fun u hu => ?_⟩
      · simp [MK.nilMV, MV.inner] at hi
      · simp [MK.nilMV, MV.inner] at hi
      · simp [MK.nilMV, MV.inner] at hu

theorem leList_get {α : Type} {le : α → α → Bool} : ∀ {xs ys : List α}, leList le xs ys = true → xs.length = ys.length ∧ ∀ (i : Nat) x, xs[i]? = some x → ∃ y, ys[i]? = some y ∧ le x y = true
  | [], [], _ => ⟨rfl, by simp⟩
  | a :: r, b :: q, h => by
    simp only [leList, Bool.and_eq_true] at h
    obtain ⟨i1, i2⟩ := leList_get h.2
    refine ⟨by simp [i1], fun i x hi => ?_⟩
    cases i with
    | zero => simp only [List.getElem?_cons_zero, Option.some.injEq] at hi; subst hi; exact ⟨b, rfl, h.1⟩
    | succ i => simp only [List.getElem?_cons_succ] at hi ⊢; exact i2 i x hi
  | [], _ :: _, h => by simp [leList] at h
  | _ :: _, [], h => by simp [leList] at h

/-- The data that Sj's environment holds. -/
def Fill.env (f : Fill) (ρ : List D) : List D := ρ.take f.n ++ evs ρ f.θ

variable {f : Fill} {F F' : Nat → Prop} {hl hl' : Nat} {μ' : Mu}

theorem leAtom_ok {x y : Atom} {d : D} (hn : f.n ≤ ρ.length) (h : leAtom f x y = true) (hy : y.get ρ = some d) : x.get (f.env ρ) = some d := by
  cases x with
  | c d' =>
    simp only [leAtom] at h
    rw [← Atom.eqb_ok h] at hy
    exact hy
  | v j =>
    simp only [leAtom] at h
    split at h
    · rename_i hj
      rw [← Atom.eqb_ok h] at hy
      simp only [Atom.get, Fill.env] at hy ⊢
      rw [List.getElem?_append_left (by simp; omega), List.getElem?_take, if_pos hj]
      exact hy
    · rename_i hj
      split at h
      · rename_i z hz
        rw [← Atom.eqb_ok h] at hy
        simp only [Atom.get, Fill.env]
        have hl : (ρ.take f.n).length = f.n := by simp; omega
        rw [List.getElem?_append_right (by omega), hl]
        simp only [evs, List.getElem?_map, hz, Option.map_some, Atom.ev_of_get hy]
      · cases h

structure FillOk (f : Fill) (hl0 hl' : Nat) (μ μ' : Mu) (ρ : List D) : Prop where
  n : f.n ≤ ρ.length
  θ : ∀ z ∈ f.θ, atomIn ρ.length z = true
  mu : ∀ β, β < hl' → μ' β = (μ (f.blk β)).now
  nil : ∀ γ, hl0 ≤ γ → γ < hl0 + f.nils.length → (μ γ).v = .slice none 0 0
  ver : ∀ γ v, f.ver[γ]? = some (some v) → (μ γ).hist.length = v + 1
  ok : ∀ β, f.blkOk β = true → β < hl'

theorem FillOk.v {hl0 : Nat} (hf : FillOk f hl0 hl' μ μ' ρ) {β : Nat} (h : β < hl') : (μ' β).v = (μ (f.blk β)).v := by rw [hf.mu β h]; rfl

theorem leFC_ok {hl0 : Nat} {x y : FC} {v : Value} (hf : FillOk f hl0 hl' μ μ' ρ) (hst : Stays F F' w w) (h : leFC f x y = true) (hv : FCR w F hl μ ρ y v) : FCR w F' hl' μ' (f.env ρ) x v := by
  cases x with
  | d t x =>
    cases y <;> simp only [leFC] at h <;> try cases h
    simp only [Bool.and_eq_true, decide_eq_true_eq] at h
    obtain ⟨rfl, h⟩ := h
    obtain ⟨d, hd, hr⟩ := hv
    exact ⟨d, leAtom_ok hf.n h hd, hr.mono hst⟩
  | o β =>
    cases y <;> simp only [leFC] at h <;> try cases h
    simp only [Bool.and_eq_true, beq_iff_eq] at h
    obtain ⟨h1, rfl⟩ := h
    have hb := hf.ok β h1
    obtain ⟨_, rfl, hs⟩ := hv
    exact ⟨hb, (hf.v hb).symm, by rw [hf.v hb]; exact hs⟩

theorem leCV0_ok {hl0 : Nat} {x y : CV0} {v : Value} (hf : FillOk f hl0 hl' μ μ' ρ) (hst : Stays F F' w w) (h : leCV0 f hl0 x y = true) (hv : CVR0 w F hl μ ρ y v) : CVR0 w F' hl' μ' (f.env ρ) x v := by
  cases x with
  | undef => trivial
  | nils =>
    cases y <;> simp only [leCV0] at h <;> first | exact hv | cases h
  | dat t x =>
    cases y <;> simp only [leCV0] at h <;> try cases h
    · -- nils
      cases t with
      | b t => cases h
      | s1 e =>
        simp only [CVR0] at hv
        subst hv
        exact ⟨_, leAtom_ok hf.n h rfl, [], rfl, .inl ⟨⟨none, 0, rfl, fun _ => rfl⟩, rfl⟩⟩
      | s2 e =>
        simp only [CVR0] at hv
        subst hv
        exact ⟨_, leAtom_ok hf.n h rfl, [], rfl, .inl ⟨⟨none, 0, rfl, fun _ => rfl⟩, rfl⟩⟩
    · rename_i u y
      simp only [Bool.and_eq_true, decide_eq_true_eq] at h
      obtain ⟨rfl, h⟩ := h
      obtain ⟨d, hd, hr⟩ := hv
      exact ⟨d, leAtom_ok hf.n h hd, hr.mono hst⟩
  | own β =>
    cases y <;> simp only [leCV0] at h <;> try cases h
    · simp only [Bool.and_eq_true, decide_eq_true_eq] at h
      have hb := hf.ok β h.1.1
      simp only [CVR0] at hv
      subst hv
      have := hf.nil _ h.1.2 h.2
      refine ⟨hb, ?_, ?_⟩
      · rw [hf.v hb, this]
      · rw [hf.v hb, this]; exact ⟨_, _, _, rfl⟩
    · rename_i γ
      simp only [Bool.and_eq_true, beq_iff_eq] at h
      obtain ⟨h1, rfl⟩ := h
      have hb := hf.ok β h1
      obtain ⟨_, rfl, hs⟩ := hv
      exact ⟨hb, (hf.v hb).symm, by rw [hf.v hb]; exact hs⟩
  | vptr β o =>
    cases y <;> simp only [leCV0] at h <;> try cases h
    rename_i γ p
    simp only [Bool.and_eq_true, beq_iff_eq] at h
    obtain ⟨⟨h1, rfl⟩, rfl⟩ := h
    have hb := hf.ok β h1
    obtain ⟨_, b, e1, e2⟩ := hv
    exact ⟨hb, b, by rw [hf.v hb]; exact e1, e2⟩
  | eptr β i s o =>
    cases y <;> simp only [leCV0] at h <;> try cases h
    rename_i γ j s' p
    simp only [Bool.and_eq_true, beq_iff_eq] at h
    obtain ⟨⟨⟨⟨h1, rfl⟩, h2⟩, rfl⟩, rfl⟩ := h
    have hb := hf.ok β h1
    obtain ⟨_, b, len, cap, n, e1, e2, e3⟩ := hv
    exact ⟨hb, b, len, cap, n, by rw [hf.v hb]; exact e1, leAtom_ok hf.n h2 e2, e3⟩
  | rref β ver i =>
    cases y <;> simp only [leCV0] at h <;> try cases h
    rename_i γ ver' j
    simp only [Bool.and_eq_true, beq_iff_eq, decide_eq_true_eq] at h
    obtain ⟨⟨⟨⟨h1, rfl⟩, h2⟩, rfl⟩, h3⟩ := h
    have hb := hf.ok β h1
    obtain ⟨_, l, n, e1, e2, e3, e4⟩ := hv
    have hh := hf.ver _ _ h3
    rw [MV.hist_last hh] at e1
    simp only [Option.some.injEq] at e1
    subst e1
    refine ⟨hb, _, n, ?_, leAtom_ok hf.n h2 e2, e3, e4⟩
    rw [hf.mu β hb]
    unfold MV.now
    have : (μ (f.blk β)).hist.isEmpty = false := by
      cases h : (μ (f.blk β)).hist with
      | nil => rw [h] at hh; cases hh
      | cons _ _ => rfl
    rw [this]
    rfl
  | fcel cs o =>
    cases y <;> simp only [leCV0] at h <;> try cases h
    rename_i ds p
    simp only [Bool.and_eq_true, beq_iff_eq] at h
    obtain ⟨h1, rfl⟩ := h
    obtain ⟨b, o', e1, e2, e3⟩ := hv
    obtain ⟨_, i2⟩ := leList_get h1
    refine ⟨b, o', e1, hst.le b e2, fun j c hj => ?_⟩
    obtain ⟨y, hy, hle⟩ := i2 j c hj
    obtain ⟨u, a1, a2⟩ := e3 j y hy
    exact ⟨u, a1, leFC_ok hf hst hle a2⟩

theorem leCV_ok {hl0 : Nat} {x y : CV} {v : Value} (hf : FillOk f hl0 hl' μ μ' ρ) (hst : Stays F F' w w) (h : leCV f hl0 x y = true) (hv : CVR w F hl μ ρ y v) : CVR w F' hl' μ' (f.env ρ) x v := by
  cases x with
  | s c =>
    cases y with
    | s d =>
      cases c <;> first | trivial | exact leCV0_ok hf hst (by simpa [leCV] using h) hv
    | fn g ds => cases c <;> first | trivial | (simp [leCV] at h; done)
  | fn g cs =>
    cases y with
    | s d => simp [leCV] at h
    | fn g' ds =>
      simp only [leCV, Bool.and_eq_true, beq_iff_eq] at h
      obtain ⟨rfl, h⟩ := h
      obtain ⟨i1, i2⟩ := leList_get h
      obtain ⟨arr, e1, e2, e3⟩ := hv
      refine ⟨arr, e1, by omega, fun j c u hc hu => ?_⟩
      obtain ⟨d, hd, hle⟩ := i2 j c hc
      exact leCV0_ok hf hst hle (e3 j d u hd hu)

theorem leCVs_ok {hl0 : Nat} (hf : FillOk f hl0 hl' μ μ' ρ) (hst : Stays F F' w w) : ∀ {xs ys : List CV} {vs : List Value}, leList (leCV f hl0) xs ys = true → CVRs w F hl μ ρ ys vs → CVRs w F' hl' μ' (f.env ρ) xs vs
  | [], [], [], _, _ => trivial
  | _ :: _, _ :: _, _ :: _, h, ⟨h1, h2⟩ => by
    simp only [leList, Bool.and_eq_true] at h
    exact ⟨leCV_ok hf hst h.1 h1, leCVs_ok hf hst h.2 h2⟩
  | [], _ :: _, _, h, _ => by simp [leList] at h
  | _ :: _, [], _, h, _ => by simp [leList] at h

theorem leTup_ok {hl0 : Nat} (hf : FillOk f hl0 hl' μ μ' ρ) (hst : Stays F F' w w) : ∀ {xs ys : List (Bool × List CV)} {vs : List Value}, leList (leP f hl0) xs ys = true → TVR w F hl μ ρ ys vs → TVR w F' hl' μ' (f.env ρ) xs vs
  | [], [], [], _, _ => trivial
  | (ag, cs) :: _, (ag', cs') :: _, v :: _, h, ⟨h1, h2⟩ => by
    simp only [leList, leP, Bool.and_eq_true, beq_iff_eq] at h
    obtain ⟨⟨rfl, h3⟩, h4⟩ := h
    refine ⟨?_, leTup_ok hf hst h4 h2⟩
    cases ag with
    | true => obtain ⟨arr, e, hc⟩ := h1; exact ⟨arr, e, leCVs_ok hf hst h3 hc⟩
    | false =>
      obtain ⟨c, rfl, hc⟩ := h1
      obtain ⟨i1, i2⟩ := leList_get h3
      obtain ⟨c', rfl⟩ := List.length_eq_one_iff.1 i1
      obtain ⟨y, hy, hle⟩ := i2 0 c' rfl
      simp only [List.getElem?_cons_zero, Option.some.injEq] at hy
      subst hy
      exact ⟨c', rfl, leCV_ok hf hst hle hc⟩
  | [], _ :: _, _, h, _ => by simp [leList] at h
  | _ :: _, [], _, h, _ => by simp [leList] at h

theorem leSV_ok {hl0 : Nat} {x y : SV} {v : Value} (hf : FillOk f hl0 hl' μ μ' ρ) (hst : Stays F F' w w) (h : leSV f hl0 x y = true) (hv : SVR w F hl μ ρ y v) : SVR w F' hl' μ' (f.env ρ) x v := by
  cases x with
  | c x =>
    by_cases hu : x = .s .undef
    · subst hu; trivial
    · cases y with
      | c y => exact leCV_ok hf hst (by cases x with | fn _ _ => exact h | s c => cases c <;> first | exact absurd rfl hu | exact h) hv
      | agg _ => cases x with | fn _ _ => simp [leSV] at h | s c => cases c <;> first | exact absurd rfl hu | (simp [leSV] at h; done)
      | tup _ => cases x with | fn _ _ => simp [leSV] at h | s c => cases c <;> first | exact absurd rfl hu | (simp [leSV] at h; done)
      | gd _ _ _ => cases x with | fn _ _ => simp [leSV] at h | s c => cases c <;> first | exact absurd rfl hu | (simp [leSV] at h; done)
  | agg xs =>
    cases y <;> simp only [leSV] at h <;> try cases h
    obtain ⟨arr, e, hc⟩ := hv
    exact ⟨arr, e, leCVs_ok hf hst h hc⟩
  | tup xs =>
    cases y <;> simp only [leSV] at h <;> try cases h
    obtain ⟨arr, e, hc⟩ := hv
    exact ⟨arr, e, leTup_ok hf hst h hc⟩
  | gd g want s => cases y <;> simp [leSV] at h

theorem nodup_inj {g : Nat → Nat} : ∀ {l : List Nat}, (l.map g).Nodup → ∀ a ∈ l, ∀ b ∈ l, g a = g b → a = b
  | [], _, a, ha, _, _, _ => by simp at ha
  | c :: l, h, a, ha, b, hb, e => by
    simp only [List.map_cons, List.nodup_cons, List.mem_map, not_exists, not_and] at h
    rcases List.mem_cons.1 ha with rfl | ha' <;> rcases List.mem_cons.1 hb with rfl | hb'
    · rfl
    · exact absurd e.symm (h.1 b hb')
    · exact absurd e (h.1 a ha')
    · exact nodup_inj h.2 a ha' b hb' e

theorem liveB_iff {h : List SB} {β : Nat} : liveB h β = true ↔ live h β := by
  unfold liveB live
  cases e : h[β]? with
  | none => simp
  | some sb => cases sb <;> simp

/-- **The other state holds.** -/
theorem leSS_ok {Sj : SS} (h : R X M w0 S μ ρ a w) (hle : leSS f Sj S = true) (hanc : ∀ (β : Nat) v, M.anc[β]? = some v → β < f.hb) : ∃ μ', R X M w0 Sj μ' (f.env ρ) a w := by
  simp only [leSS, Bool.and_eq_true, beq_iff_eq, decide_eq_true_eq, List.all_eq_true, List.mem_range] at hle
  obtain ⟨⟨⟨⟨⟨⟨⟨⟨⟨⟨hn, hfn⟩, hθ⟩, hslots⟩, hnils⟩, hver⟩, hhb⟩, hhj⟩, hheap⟩, hok⟩, hnd⟩ := hle
  obtain ⟨μ1, hμ1, hv1⟩ : ∃ μ1 : Mu, (∀ β, β < S.heap.length → μ1 β = μ β) ∧ ∀ j k, f.nils[j]? = some k → μ1 (S.heap.length + j) = k.nilMV :=
    ⟨fun β => if β < S.heap.length then μ β else match f.nils[β - S.heap.length]? with | some k => k.nilMV | none => μ β, fun β hb => by simp [hb], fun j k hj => by
      show (if _ then _ else _) = _
      rw [if_neg (by omega), show S.heap.length + j - S.heap.length = j from by omega, hj]⟩
  have hN := R_nils h f.nils hnils hμ1 hv1
  generalize hh : S.heap ++ f.nils.map (fun k => k.sb 0 (.c (.lst []))) = h1 at hN hheap hver
  have hlen1 : h1.length = S.heap.length + f.nils.length := by rw [← hh]; simp
  have hF : FillOk f S.heap.length Sj.heap.length μ1 (fun β => (μ1 (f.blk β)).now) ρ := by
    refine ⟨by rw [h.len]; exact hfn, fun z hz => by rw [h.len]; exact hθ z hz, fun _ _ => rfl, fun γ h2 h3 => ?_, fun γ v hγ => ?_, fun β hb => ?_⟩
    · have := hv1 (γ - S.heap.length) _ (List.getElem?_eq_getElem (by omega))
      rw [show S.heap.length + (γ - S.heap.length) = γ from by omega] at this
      rw [this]
      cases f.nils[γ - S.heap.length]'(by omega) <;> rfl
    · rw [hver, List.getElem?_map] at hγ
      cases hb : h1[γ]? with
      | none => rw [hb] at hγ; cases hγ
      | some sb =>
        rw [hb] at hγ
        simp only [Option.map_some, Option.some.injEq] at hγ
        cases sb <;> simp only [verOf, Option.some.injEq, reduceCtorEq] at hγ
        subst hγ
        exact (hN.blocks γ _ hb).1
    · simp only [Fill.blkOk, Bool.and_eq_true, decide_eq_true_eq] at hb
      omega
  have hsb : ∀ {β sb}, Sj.heap[β]? = some sb → sb ≠ .dead → ∃ sb', h1[f.blk β]? = some sb' ∧ leSB f S.heap.length sb sb' = true := by
    intro β sb hs hd
    have hb := hheap β (live_lt ⟨_, hs, hd⟩)
    rw [hs] at hb
    cases sb with
    | dead => exact absurd rfl hd
    | _ =>
      simp only [Bool.and_eq_true] at hb
      cases hb' : h1[f.blk β]? with
      | none => rw [hb'] at hb; simp at hb
      | some sb' => rw [hb'] at hb; exact ⟨sb', rfl, hb.2⟩
  have hlive : ∀ {β}, live Sj.heap β → live h1 (f.blk β) := by
    intro β ⟨sb, hs, hd⟩
    obtain ⟨sb', h2, h3⟩ := hsb hs hd
    refine ⟨sb', h2, fun e => ?_⟩
    subst e
    cases sb <;> first | exact absurd rfl hd | simp [leSB] at h3
  have hst : Stays (Fz X h1 μ1 w) (Fz X Sj.heap (fun β => (μ1 (f.blk β)).now) w) w w := ⟨fun b hb => ⟨hb.1, fun β hl ho => hb.2 _ (hlive hl) (MV.now_own.1 ho)⟩, fun _ _ => rfl⟩
  obtain ⟨l1, l2⟩ := leList_get hslots
  refine ⟨fun β => (μ1 (f.blk β)).now, hN.keeps, ?_, ?_, hN.defers, fun i s hs => ?_, fun β sb hs => ?_, hN.ex, fun β γ hβ hγ hne b hb hb' => ?_, fun β hβ b hb => hN.exo _ (hlive hβ) b (MV.now_own.1 hb), fun β v hv => ?_⟩
  · have := hF.n
    simp only [Fill.env, List.length_append, List.length_take, evs, List.length_map]
    omega
  · rw [l1]; exact hN.size
  · obtain ⟨y, hy, hle⟩ := l2 i s hs
    exact leSV_ok hF hst hle (hN.slots i y hy)
  · by_cases hd : sb = .dead
    · subst hd; trivial
    obtain ⟨sb', h2, h3⟩ := hsb hs hd
    have hB := hN.blocks _ _ h2
    cases sb with
    | dead => trivial
    | hid => simp [leSB] at h3
    | var cs =>
      cases sb' with
      | var ys =>
        obtain ⟨h0, b, arr, T, e1, e2, e3, e4⟩ := hB
        rw [MV.now_nil h0]
        exact ⟨h0, b, arr, T, e1, e2, e3, leCVs_ok hF hst h3 e4⟩
      | _ => simp [leSB] at h3
    | row t e x =>
      cases sb' with
      | row t' e' y =>
        simp only [leSB, Bool.and_eq_true, decide_eq_true_eq, beq_iff_eq] at h3
        obtain ⟨⟨rfl, rfl⟩, hx⟩ := h3
        obtain ⟨h0, n, xs, ls, e1, e2, e3, e4, e5⟩ := hB
        rw [MV.now_nil h0]
        exact ⟨h0, n, xs, ls, e1, e2, leAtom_ok hF.n hx e3, e4, e5.mono hst⟩
      | _ => simp [leSB] at h3
    | rows et f' e v x =>
      cases sb' with
      | rows et' g' e' v' y =>
        simp only [leSB, Bool.and_eq_true, decide_eq_true_eq, beq_iff_eq] at h3
        obtain ⟨⟨⟨⟨rfl, rfl⟩, rfl⟩, rfl⟩, hx⟩ := h3
        obtain ⟨h0, n, ls, e1, e2, e3, e4, e5, e6, e7⟩ := hB
        have hne : (μ1 (f.blk β)).hist.isEmpty = false := by
          cases h : (μ1 (f.blk β)).hist with
          | nil => rw [h] at h0; cases h0
          | cons _ _ => rfl
        refine ⟨by simp [MV.now, hne], n, ls, by rw [MV.now_inner]; exact e1, fun b hb => e2 b (MV.now_own.1 hb), leAtom_ok hF.n hx e3, e4, by rw [MV.now_inner]; exact e5, by rw [MV.now_inner]; exact e6, by rw [MV.now_inner]; exact e7⟩
      | _ => simp [leSB] at h3
  · refine hN.inj _ _ (hlive hβ) (hlive hγ) (fun e => hne ?_) b (MV.now_own.1 hb) (MV.now_own.1 hb')
    refine nodup_inj hnd β ?_ γ ?_ e
    · simp only [List.mem_filter, List.mem_range]; exact ⟨live_lt hβ, liveB_iff.2 hβ⟩
    · simp only [List.mem_filter, List.mem_range]; exact ⟨live_lt hγ, liveB_iff.2 hγ⟩
  · have hb := hanc β v hv
    refine ⟨Nat.lt_of_lt_of_le hb hhj, ?_⟩
    show (μ1 (f.blk β)).v = v
    rw [show f.blk β = β from by simp [Fill.blk, hb], hμ1 β (h.anc β v hv).1]
    exact (h.anc β v hv).2

end
end Vs

namespace Vs
open Go Go.RowKit

/-! ### The last writer -/
def lastLv (f : Nat → Bool) : Nat → Nat
  | 0 => 0
  | i + 1 => if f i then i + 1 else lastLv f i

theorem lastLv_le (f : Nat → Bool) : ∀ N, lastLv f N ≤ N
  | 0 => Nat.le_refl _
  | i + 1 => by
    unfold lastLv
    split
    · exact Nat.le_refl _
    · exact Nat.le_succ_of_le (lastLv_le f i)

theorem lastLv_congr {f g : Nat → Bool} : ∀ {N : Nat}, (∀ j, j < N → f j = g j) → lastLv f N = lastLv g N
  | 0, _ => rfl
  | i + 1, h => by
    unfold lastLv
    rw [h i (Nat.lt_succ_self i), lastLv_congr fun j hj => h j (Nat.lt_succ_of_lt hj)]

theorem lastLv_cut {f : Nat → Bool} {i : Nat} : ∀ {N : Nat}, i ≤ N → (∀ j, i ≤ j → j < N → f j = false) → lastLv f N = lastLv f i
  | 0, h, _ => by rw [Nat.le_zero.1 h]
  | N + 1, h, hf => by
    rcases Nat.lt_or_eq_of_le h with hlt | rfl
    · have hle : i ≤ N := Nat.le_of_lt_succ hlt
      rw [lastLv, hf N hle (Nat.lt_succ_self N)]
      simp only [Bool.false_eq_true, if_false]
      exact lastLv_cut hle fun j h1 h2 => hf j h1 (Nat.lt_succ_of_lt h2)
    · rfl

theorem lastLv_at {f : Nat → Bool} {i N : Nat} (hi : i < N) (h : f i = true) (hf : ∀ j, i < j → j < N → f j = false) : lastLv f N = i + 1 := by
  rw [lastLv_cut (i := i + 1) hi (fun j h1 h2 => hf j h1 h2), lastLv, h]
  rfl

/-- Where no one writes, the value of the last writer is the value at the end. -/
theorem lastLv_val {α : Type} {f : Nat → Bool} {v : Nat → α} : ∀ {N : Nat}, (∀ j, j < N → f j = false → v (j + 1) = v j) → v (lastLv f N) = v N
  | 0, _ => rfl
  | N + 1, h => by
    unfold lastLv
    cases hf : f N with
    | true => rfl
    | false =>
      simp only [Bool.false_eq_true, if_false]
      rw [h N (Nat.lt_succ_self N) hf]
      exact lastLv_val fun j hj => h j (Nat.lt_succ_of_lt hj)

theorem lastLv_spec {f : Nat → Bool} : ∀ {N : Nat}, lastLv f N = 0 ∨ ∃ j, j < N ∧ lastLv f N = j + 1 ∧ f j = true
  | 0 => .inl rfl
  | N + 1 => by
    unfold lastLv
    cases hf : f N with
    | true => exact .inr ⟨N, Nat.lt_succ_self N, rfl, hf⟩
    | false =>
      simp only [Bool.false_eq_true, if_false]
      rcases lastLv_spec (f := f) (N := N) with h | ⟨j, h1, h2, h3⟩
      · exact .inl h
      · exact .inr ⟨j, Nat.lt_succ_of_lt h1, h2, h3⟩

/-! ### Which own blocks a value names -/
def refs0 (p : Nat → Bool) : CV0 → Bool
  | .own β => p β
  | .vptr β _ => p β
  | .eptr β _ _ _ => p β
  | .rref β _ _ => p β
  | .fcel cs _ => cs.all fun c => match c with | .o β => p β | .d _ _ => true
  | _ => true
def refsCV (p : Nat → Bool) : CV → Bool
  | .s c => refs0 p c
  | .fn _ caps => caps.all (refs0 p)
def refsSV (p : Nat → Bool) : SV → Bool
  | .c x => refsCV p x
  | .agg cs => cs.all (refsCV p)
  | .tup vs => vs.all fun x => x.2.all (refsCV p)
  | .gd _ _ s => refsSV p s
def refsSB (p : Nat → Bool) : SB → Bool
  | .var cs => cs.all (refsCV p)
  | _ => true

section
variable {w : World} {F : Nat → Prop} {hl : Nat} {μ μ' : Mu} {ρ : List D} {p : Nat → Bool}

/-- The other map names the same things; more may have happened to them. -/
def MuUp (p : Nat → Bool) (hl : Nat) (μ μ' : Mu) : Prop := ∀ β, p β = true → β < hl → (μ' β).v = (μ β).v ∧ ∃ ext, (μ' β).hist = (μ β).hist ++ ext

theorem refs0_ok (hp : MuUp p hl μ μ') {c : CV0} {v : Value} (hr : refs0 p c = true) (h : CVR0 w F hl μ ρ c v) : CVR0 w F hl μ' ρ c v := by
  cases c with
  | undef => trivial
  | nils => exact h
  | dat t x => exact h
  | own β => obtain ⟨h1, h2⟩ := h; refine ⟨h1, ?_⟩; rw [(hp β hr h1).1]; exact h2
  | vptr β off => obtain ⟨h1, h2⟩ := h; refine ⟨h1, ?_⟩; rw [(hp β hr h1).1]; exact h2
  | eptr β i sz off => obtain ⟨h1, h2⟩ := h; refine ⟨h1, ?_⟩; rw [(hp β hr h1).1]; exact h2
  | rref β ver i =>
    obtain ⟨h1, l, n, h2, h3⟩ := h
    obtain ⟨_, ext, he⟩ := hp β hr h1
    refine ⟨h1, l, n, ?_, h3⟩
    rw [he, List.getElem?_append_left (List.getElem?_eq_some_iff.1 h2).1]; exact h2
  | fcel cs off =>
    obtain ⟨b, o, h1, h2, h3⟩ := h
    refine ⟨b, o, h1, h2, fun j c hj => ?_⟩
    obtain ⟨u, a1, a2⟩ := h3 j c hj
    refine ⟨u, a1, ?_⟩
    have := List.all_eq_true.1 hr c (List.mem_of_getElem? hj)
    cases c with
    | d t x => exact a2
    | o β => obtain ⟨g1, g2⟩ := a2; refine ⟨g1, ?_⟩; rw [(hp β this g1).1]; exact g2

theorem refsCV_ok (hp : MuUp p hl μ μ') {c : CV} {v : Value} (hr : refsCV p c = true) (h : CVR w F hl μ ρ c v) : CVR w F hl μ' ρ c v := by
  cases c with
  | s c => exact refs0_ok hp hr h
  | fn f caps =>
    obtain ⟨cs, h1, h2, h3⟩ := h
    exact ⟨cs, h1, h2, fun j c u hc hu => refs0_ok hp (List.all_eq_true.1 hr c (List.mem_of_getElem? hc)) (h3 j c u hc hu)⟩

theorem refsCVs_ok (hp : MuUp p hl μ μ') : ∀ {cs : List CV} {vs : List Value}, cs.all (refsCV p) = true → CVRs w F hl μ ρ cs vs → CVRs w F hl μ' ρ cs vs
  | [], [], _, _ => trivial
  | _ :: _, _ :: _, hr, ⟨a, b⟩ => by
    simp only [List.all_cons, Bool.and_eq_true] at hr
    exact ⟨refsCV_ok hp hr.1 a, refsCVs_ok hp hr.2 b⟩

theorem refsTV_ok (hp : MuUp p hl μ μ') : ∀ {cs : List (Bool × List CV)} {vs : List Value}, (cs.all fun x => x.2.all (refsCV p)) = true → TVR w F hl μ ρ cs vs → TVR w F hl μ' ρ cs vs
  | [], [], _, _ => trivial
  | (ag, cs) :: _, _ :: _, hr, ⟨a, b⟩ => by
    simp only [List.all_cons, Bool.and_eq_true] at hr
    refine ⟨?_, refsTV_ok hp hr.2 b⟩
    cases ag with
    | true => obtain ⟨arr, e, hc⟩ := a; exact ⟨arr, e, refsCVs_ok hp hr.1 hc⟩
    | false =>
      obtain ⟨c, rfl, hc⟩ := a
      have := hr.1
      simp only [List.all_cons, List.all_nil, Bool.and_true] at this
      exact ⟨c, rfl, refsCV_ok hp this hc⟩

theorem refsSV_ok (hp : MuUp p hl μ μ') : ∀ {s : SV} {v : Value}, refsSV p s = true → SVR w F hl μ ρ s v → SVR w F hl μ' ρ s v
  | .c _, _, hr, h => refsCV_ok hp hr h
  | .agg _, _, hr, ⟨arr, e, hc⟩ => ⟨arr, e, refsCVs_ok hp hr hc⟩
  | .tup _, _, hr, ⟨arr, e, hc⟩ => ⟨arr, e, refsTV_ok hp hr hc⟩
  | .gd _ _ _, _, hr, ⟨h0, h1, h2⟩ => ⟨h0, fun hg => refsSV_ok hp hr (h1 hg), h2⟩

theorem refsSB_ok {Mine : Nat → Prop} (hp : MuUp p hl μ μ') {sb : SB} {v : MV} (hr : refsSB p sb = true) (h : BlkR Mine w F hl μ ρ sb v) : BlkR Mine w F hl μ' ρ sb v := by
  cases sb with
  | var cs => obtain ⟨h0, b, arr, T, h1, h2, h3, h4⟩ := h; exact ⟨h0, b, arr, T, h1, h2, h3, refsCVs_ok hp hr h4⟩
  | _ => exact h
end

end Vs

namespace Vs
open Go Go.RowKit

/-- A plan of a region: the states in the order of the text, and what each operation sees in every order. -/
structure Rg where
  N : Nat
  A : Nat → SS
  V : Nat → SS
  S' : Nat → SS
  g : Nat → Guard
  eff : Nat → Eff
  dst : Nat → Option Nat
  tch : Nat → List Nat
  bef : Nat → Nat → Bool

namespace Rg
variable (r : Rg)
def n (i : Nat) : Nat := (r.A i).n
def len (i : Nat) : Nat := (r.A i).heap.length
def un (i j : Nat) : Bool := j != i && !r.bef i j && !r.bef j i
def wrB (i β : Nat) : Bool := (r.tch i).contains β || (decide (r.len i ≤ β) && decide (β < r.len (i + 1)))
def p (i β : Nat) : Bool := (List.range r.N).all fun j => !(r.un i j && decide (r.len j ≤ β) && decide (β < r.len (j + 1)))

structure Ok (E : Env) (ops : Array Oper) : Prop where
  size : ops.size = r.N
  op : ∀ i o, ops[i]? = some o → sop E ops.toList (r.V i) o = .ok (r.S' i, r.g i, r.eff i, r.tch i) ∧ o.dst = r.dst i
  edgeLt : ∀ i o e, ops[i]? = some o → e ∈ o.after → Region.binds .any e = true → e.on < i
  befE : ∀ i o j, ops[i]? = some o → r.bef i j = true → ∃ e, e ∈ o.after ∧ Region.binds .any e = true ∧ (j = e.on ∨ r.bef e.on j = true)
  vn : ∀ i, i < r.N → (r.V i).n = r.n i
  vslen : ∀ i, i < r.N → (r.V i).slots.length = (r.A i).slots.length
  vslot : ∀ i, i < r.N → ∀ (k : Nat) s, (r.V i).slots[k]? = some s → s = SV.undef ∨ ((r.A i).slots[k]? = some s ∧ ∀ j, j < r.N → r.un i j = true → r.dst j ≠ some k)
  vhlen : ∀ i, i < r.N → (r.V i).heap.length = r.len i
  vblk : ∀ i, i < r.N → ∀ (β : Nat) sb, (r.V i).heap[β]? = some sb → sb = .dead ∨ ((r.A i).heap[β]? = some sb ∧ ∀ j, j < r.N → r.un i j = true → r.wrB j β = false)
  an : ∀ i, i < r.N → r.n (i + 1) = (r.S' i).n
  anMono : ∀ i, i < r.N → r.n i ≤ r.n (i + 1)
  aslen : ∀ i, i < r.N → (r.A (i + 1)).slots.length = (r.A i).slots.length
  aslot : ∀ i, i < r.N → ∀ (k : Nat), (r.A (i + 1)).slots[k]? = if r.dst i = some k then (r.S' i).slots[k]? else (r.A i).slots[k]?
  alen : ∀ i, i < r.N → r.len (i + 1) = (r.S' i).heap.length
  ablk : ∀ i, i < r.N → ∀ (β : Nat), (r.A (i + 1)).heap[β]? = if r.wrB i β = true then (r.S' i).heap[β]? else (r.A i).heap[β]?
  lenS : ∀ i, i < r.N → r.len i ≤ r.len (i + 1)
  tlive : ∀ i, i < r.N → ∀ β, β ∈ r.tch i → live (r.V i).heap β
  cS : ∀ i j k, i < j → j < r.N → r.dst i = some k → r.dst j = some k → r.bef j i = true
  cB : ∀ i j β, i < j → j < r.N → r.wrB i β = true → r.wrB j β = true → r.bef j i = true
  refS : ∀ i, i < r.N → ∀ (k : Nat) s, r.dst i = some k → (r.S' i).slots[k]? = some s → refsSV (r.p i) s = true
  refB : ∀ i, i < r.N → ∀ (β : Nat) sb, r.wrB i β = true → (r.S' i).heap[β]? = some sb → refsSB (r.p i) sb = true

def lvS (L : Nat → Bool) (k : Nat) : Nat := lastLv (fun i => L i && r.dst i == some k) r.N
def lvB (L : Nat → Bool) (β : Nat) : Nat := lastLv (fun i => L i && r.wrB i β) r.N
def liveL (L : Nat → Bool) (β : Nat) : Prop := live (r.A (r.lvB L β)).heap β
def FL (X : Nat → Prop) (L : Nat → Bool) (μ : Mu) (w : World) (b : Nat) : Prop := (b < w.heap.size ∧ ¬ X b) ∧ ∀ β, r.liveL L β → ¬ (μ β).own b
end Rg

/-- The invariant: the operations of L have run. -/
structure RL (r : Rg) (X : Nat → Prop) (M : Hand) (w0 : World) (L : Nat → Bool) (μ : Mu) (ρN : List D) (a : Act) (w : World) : Prop where
  keeps : Keeps M w0 w
  size : a.tmps.size = (r.A 0).slots.length
  defers : a.defers = []
  slots : ∀ (k : Nat) s, (r.A (r.lvS L k)).slots[k]? = some s → SVR w (r.FL X L μ w) (r.len (r.lvS L k)) μ (ρN.take (r.n (r.lvS L k))) s (a.tmps.getD k Go.undef)
  blocks : ∀ (β : Nat) sb, (r.A (r.lvB L β)).heap[β]? = some sb → BlkR (fun b => w0.heap.size ≤ b ∨ M b) w (r.FL X L μ w) (r.len (r.lvB L β)) μ (ρN.take (r.n (r.lvB L β))) sb (μ β)
  ex : ∀ b, X b → b < w.heap.size
  inj : ∀ β γ, r.liveL L β → r.liveL L γ → β ≠ γ → ∀ b, (μ β).own b → ¬ (μ γ).own b
  exo : ∀ β, r.liveL L β → ∀ b, (μ β).own b → ¬ X b
  anc : ∀ (β : Nat) v, M.anc[β]? = some v → β < r.len 0 ∧ (μ β).v = v

/-- L keeps to the order. -/
structure Down (r : Rg) (L : Nat → Bool) : Prop where
  bef : ∀ i j, i < r.N → L i = true → r.bef i j = true → L j = true

section
variable {r : Rg} {E : Env} {ops : Array Oper} {X : Nat → Prop} {M : Hand} {w0 w : World} {L : Nat → Bool} {μ : Mu} {ρN : List D} {a : Act}

theorem Rg.Ok.befLt (h : r.Ok E ops) : ∀ i, i < r.N → ∀ j, r.bef i j = true → j < i := by
  intro i
  induction i using Nat.strongRecOn with
  | ind i ih =>
    intro hi j hj
    have hsz : i < ops.size := by rw [h.size]; exact hi
    obtain ⟨e, he, hb, hor⟩ := h.befE i ops[i] j (by simp [hsz]) hj
    have hlt := h.edgeLt i ops[i] e (by simp [hsz]) he hb
    rcases hor with rfl | h2
    · exact hlt
    · exact Nat.lt_trans (ih e.on hlt (Nat.lt_trans hlt hi) j h2) hlt

theorem Rg.Ok.nMono (h : r.Ok E ops) {i j : Nat} (hij : i ≤ j) (hj : j ≤ r.N) : r.n i ≤ r.n j := by
  induction j with
  | zero => rw [Nat.le_zero.1 hij]; exact Nat.le_refl _
  | succ j ih =>
    rcases Nat.lt_or_eq_of_le hij with hlt | rfl
    · exact Nat.le_trans (ih (Nat.le_of_lt_succ hlt) (Nat.le_of_lt hj)) (h.anMono j hj)
    · exact Nat.le_refl _

theorem Rg.Ok.lenStep (h : r.Ok E ops) {i : Nat} (hi : i < r.N) : r.len i ≤ r.len (i + 1) := h.lenS i hi

theorem Rg.Ok.lenMono (h : r.Ok E ops) {i j : Nat} (hij : i ≤ j) (hj : j ≤ r.N) : r.len i ≤ r.len j := by
  induction j with
  | zero => rw [Nat.le_zero.1 hij]; exact Nat.le_refl _
  | succ j ih =>
    rcases Nat.lt_or_eq_of_le hij with hlt | rfl
    · exact Nat.le_trans (ih (Nat.le_of_lt_succ hlt) (Nat.le_of_lt hj)) (h.lenStep hj)
    · exact Nat.le_refl _

theorem Rg.Ok.slenMono (h : r.Ok E ops) : ∀ i, i ≤ r.N → (r.A i).slots.length = (r.A 0).slots.length
  | 0, _ => rfl
  | i + 1, hi => (h.aslen i hi).trans (Rg.Ok.slenMono h i (Nat.le_of_lt hi))

/-- What i sees of a slot is what stands there. -/
theorem Rg.Ok.lvS_view (h : r.Ok E ops) (hD : Down r L) {i : Nat} (hi : i < r.N) (hni : L i = false) (hrd : ∀ j, r.bef i j = true → L j = true) {k : Nat} (hk : ∀ j, j < r.N → r.un i j = true → r.dst j ≠ some k) :
    r.lvS L k ≤ i ∧ (r.A (r.lvS L k)).slots[k]? = (r.A i).slots[k]? := by
  have key : ∀ j, j < r.N → r.dst j = some k → (i ≤ j → L j = false) ∧ (j < i → L j = true) := by
    intro j hj hd
    refine ⟨fun hij => ?_, fun hji => ?_⟩
    · rcases Nat.lt_or_eq_of_le hij with hlt | rfl
      · cases hL : L j with
        | false => rfl
        | true =>
          cases hb : r.bef j i with
          | true => rw [hD.bef j i hj hL hb] at hni; cases hni
          | false =>
            cases hb2 : r.bef i j with
            | true => have := h.befLt i hi j hb2; omega
            | false =>
              exact absurd hd (hk j hj (by simp [Rg.un, hb, hb2]; omega))
      · exact hni
    · cases hb : r.bef i j with
      | true => exact hrd j hb
      | false =>
        cases hb2 : r.bef j i with
        | true => have := h.befLt j hj i hb2; omega
        | false => exact absurd hd (hk j hj (by simp [Rg.un, hb, hb2]; omega))
  have e1 : r.lvS L k = lastLv (fun j => r.dst j == some k) i := by
    unfold Rg.lvS
    rw [lastLv_cut (i := i) (Nat.le_of_lt hi) (fun j h1 h2 => by
      cases hd : (r.dst j == some k) with
      | false => simp
      | true => simp [(key j h2 (by simpa using hd)).1 h1])]
    refine lastLv_congr fun j hj => ?_
    cases hd : (r.dst j == some k) with
    | false => simp
    | true => simp [(key j (Nat.lt_trans hj hi) (by simpa using hd)).2 hj]
  rw [e1]
  refine ⟨lastLv_le _ _, lastLv_val (v := fun i => (r.A i).slots[k]?) fun j hj hf => ?_⟩
  show (r.A (j + 1)).slots[k]? = _
  rw [h.aslot j (Nat.lt_trans hj hi), if_neg (by simpa using hf)]

theorem Rg.Ok.lvB_view (h : r.Ok E ops) (hD : Down r L) {i : Nat} (hi : i < r.N) (hni : L i = false) (hrd : ∀ j, r.bef i j = true → L j = true) {β : Nat} (hk : ∀ j, j < r.N → r.un i j = true → r.wrB j β = false) :
    r.lvB L β ≤ i ∧ (r.A (r.lvB L β)).heap[β]? = (r.A i).heap[β]? := by
  have key : ∀ j, j < r.N → r.wrB j β = true → (i ≤ j → L j = false) ∧ (j < i → L j = true) := by
    intro j hj hd
    refine ⟨fun hij => ?_, fun hji => ?_⟩
    · rcases Nat.lt_or_eq_of_le hij with hlt | rfl
      · cases hL : L j with
        | false => rfl
        | true =>
          cases hb : r.bef j i with
          | true => rw [hD.bef j i hj hL hb] at hni; cases hni
          | false =>
            cases hb2 : r.bef i j with
            | true => have := h.befLt i hi j hb2; omega
            | false =>
              have := hk j hj (by simp [Rg.un, hb, hb2]; omega)
              rw [this] at hd; cases hd
      · exact hni
    · cases hb : r.bef i j with
      | true => exact hrd j hb
      | false =>
        cases hb2 : r.bef j i with
        | true => have := h.befLt j hj i hb2; omega
        | false =>
          have := hk j hj (by simp [Rg.un, hb, hb2]; omega)
          rw [this] at hd; cases hd
  have e1 : r.lvB L β = lastLv (fun j => r.wrB j β) i := by
    unfold Rg.lvB
    rw [lastLv_cut (i := i) (Nat.le_of_lt hi) (fun j h1 h2 => by
      cases hd : r.wrB j β with
      | false => simp
      | true => simp [(key j h2 hd).1 h1])]
    refine lastLv_congr fun j hj => ?_
    cases hd : r.wrB j β with
    | false => simp
    | true => simp [(key j (Nat.lt_trans hj hi) hd).2 hj]
  rw [e1]
  refine ⟨lastLv_le _ _, lastLv_val (v := fun i => (r.A i).heap[β]?) fun j hj hf => ?_⟩
  show (r.A (j + 1)).heap[β]? = _
  rw [h.ablk j (Nat.lt_trans hj hi), if_neg (by simp [hf])]

/-- Live blocks lie in the heap. -/
theorem RL.own_lt (h : RL r X M w0 L μ ρN a w) {β : Nat} (hl : r.liveL L β) {b : Nat} (hb : (μ β).own b) : b < w.heap.size := by
  obtain ⟨sb, hs, hd⟩ := hl
  exact (h.blocks β sb hs).lt hd hb

/-- What i does not see of the own blocks. -/
def exV (r : Rg) (X : Nat → Prop) (L : Nat → Bool) (μ : Mu) (i : Nat) (b : Nat) : Prop := X b ∨ ∃ β, r.liveL L β ∧ ¬ live (r.V i).heap β ∧ (μ β).own b

theorem view_ok (h : r.Ok E ops) (hD : Down r L) (hR : RL r X M w0 L μ ρN a w) (hN : ρN.length = r.n r.N) {i : Nat} (hi : i < r.N) (hni : L i = false) (hrd : ∀ j, r.bef i j = true → L j = true) :
    (∀ β, live (r.V i).heap β → r.liveL L β) ∧ r.FL X L μ w = Fz (exV r X L μ i) (r.V i).heap μ w ∧ R (exV r X L μ i) M w0 (r.V i) μ (ρN.take (r.n i)) a w := by
  have hlv : ∀ β, live (r.V i).heap β → r.liveL L β := by
    intro β ⟨sb, hs, hd⟩
    rcases h.vblk i hi β sb hs with rfl | ⟨h1, h2⟩
    · exact absurd rfl hd
    · obtain ⟨_, h4⟩ := h.lvB_view hD hi hni hrd h2
      exact ⟨sb, by rw [h4]; exact h1, hd⟩
  have hF : r.FL X L μ w = Fz (exV r X L μ i) (r.V i).heap μ w := by
    funext b
    simp only [Rg.FL, Fz, exV, eq_iff_iff]
    constructor
    · rintro ⟨⟨h1, h2⟩, h3⟩
      refine ⟨⟨h1, ?_⟩, fun β hl => h3 β (hlv β hl)⟩
      rintro (hx | ⟨β, h4, _, h5⟩)
      · exact h2 hx
      · exact h3 β h4 h5
    · rintro ⟨⟨h1, h2⟩, h3⟩
      refine ⟨⟨h1, fun hx => h2 (.inl hx)⟩, fun β hl he => ?_⟩
      by_cases hv : live (r.V i).heap β
      · exact h3 β hv he
      · exact h2 (.inr ⟨β, hl, hv, he⟩)
  have hpre : ∀ {l : Nat}, l ≤ i → ∃ σ, ρN.take (r.n i) = ρN.take (r.n l) ++ σ := by
    intro l hl
    refine ⟨(ρN.take (r.n i)).drop (r.n l), ?_⟩
    have h1 := h.nMono hl (Nat.le_of_lt hi)
    have h2 : ρN.take (r.n l) = (ρN.take (r.n i)).take (r.n l) := by rw [List.take_take, Nat.min_eq_left h1]
    rw [h2, List.take_append_drop]
  have hgr : ∀ {l : Nat}, l ≤ i → Grows (r.FL X L μ w) (Fz (exV r X L μ i) (r.V i).heap μ w) (r.len l) (r.V i).heap.length μ μ (ρN.take (r.n l)) (ρN.take (r.n i)) w w := by
    intro l hl
    rw [hF, h.vhlen i hi]
    exact ⟨⟨fun _ h => h, fun _ _ => rfl⟩, hpre hl, h.lenMono hl (Nat.le_of_lt hi), fun _ _ => ⟨rfl, [], by simp⟩⟩
  refine ⟨hlv, hF, hR.keeps, ?_, ?_, hR.defers, fun k s hs => ?_, fun β sb hs => ?_, ?_, fun β γ h1 h2 => hR.inj β γ (hlv β h1) (hlv γ h2), fun β h1 b hb => ?_, fun β v hv => ⟨Nat.lt_of_lt_of_le (hR.anc β v hv).1 (by rw [h.vhlen i hi]; exact h.lenMono (Nat.zero_le i) (Nat.le_of_lt hi)), (hR.anc β v hv).2⟩⟩
  · rw [h.vn i hi, List.length_take, hN]
    exact Nat.min_eq_left (h.nMono (Nat.le_of_lt hi) (Nat.le_refl _))
  · rw [hR.size, h.vslen i hi, h.slenMono i (Nat.le_of_lt hi)]
  · rcases h.vslot i hi k s hs with rfl | ⟨h1, h2⟩
    · trivial
    · obtain ⟨h3, h4⟩ := h.lvS_view hD hi hni hrd h2
      exact (hR.slots k s (by rw [h4]; exact h1)).mono (hgr h3)
  · rcases h.vblk i hi β sb hs with rfl | ⟨h1, h2⟩
    · trivial
    · obtain ⟨h3, h4⟩ := h.lvB_view hD hi hni hrd h2
      exact (hR.blocks β sb (by rw [h4]; exact h1)).grow (hgr h3) (Nat.le_refl _) (fun _ _ => rfl)
  · rintro b (hx | ⟨β, h4, _, h5⟩)
    · exact hR.ex b hx
    · exact hR.own_lt h4 h5
  · rintro (hx | ⟨γ, h4, h5, h6⟩)
    · exact hR.exo β (hlv β h1) b hb hx
    · exact hR.inj β γ (hlv β h1) h4 (fun e => h5 (by rw [← e]; exact h1)) b hb h6

end
end Vs

namespace Vs
open Go Go.RowKit

section
variable {r : Rg} {E : Env} {ops : Array Oper} {X : Nat → Prop} {M : Hand} {w0 w w' : World} {L : Nat → Bool} {μ μ' : Mu} {ρN : List D} {a a' : Act}

/-- One more operation. -/
def addL (L : Nat → Bool) (i : Nat) (j : Nat) : Bool := j == i || L j

theorem addL_ne {i j : Nat} (h : j ≠ i) : addL L i j = L j := by simp [addL, h]
theorem addL_self {i : Nat} : addL L i i = true := by simp [addL]

theorem Down.add (hD : Down r L) {i : Nat} (hrd : ∀ j, r.bef i j = true → L j = true) : Down r (addL L i) where
  bef := by
    intro j k hj hL hb
    by_cases he : j = i
    · subst he
      have := hrd k hb
      simp [addL, this]
    · rw [addL_ne he] at hL
      have := hD.bef j k hj hL hb
      simp [addL, this]

theorem Down.later (hD : Down r L) {i j : Nat} (hni : L i = false) (hj : j < r.N) (hb : r.bef j i = true) : L j = false := by
  cases hL : L j with
  | false => rfl
  | true => rw [hD.bef j i hj hL hb] at hni; cases hni

theorem Rg.Ok.lvS_add (h : r.Ok E ops) (hD : Down r L) {i : Nat} (hi : i < r.N) (hni : L i = false) (k : Nat) : r.lvS (addL L i) k = if r.dst i = some k then i + 1 else r.lvS L k := by
  unfold Rg.lvS
  split
  · rename_i hd
    refine lastLv_at hi (by simp [addL, hd]) fun j h1 h2 => ?_
    rw [addL_ne (by omega)]
    cases hdj : (r.dst j == some k) with
    | false => simp
    | true =>
      have := hD.later hni h2 (h.cS i j k h1 h2 hd (by simpa using hdj))
      simp [this]
  · rename_i hd
    refine lastLv_congr fun j _ => ?_
    by_cases he : j = i
    · subst he
      have : (r.dst j == some k) = false := by simpa using hd
      simp [this]
    · rw [addL_ne he]

theorem Rg.Ok.lvB_add (h : r.Ok E ops) (hD : Down r L) {i : Nat} (hi : i < r.N) (hni : L i = false) (β : Nat) : r.lvB (addL L i) β = if r.wrB i β = true then i + 1 else r.lvB L β := by
  unfold Rg.lvB
  split
  · rename_i hd
    refine lastLv_at hi (by simp [addL, hd]) fun j h1 h2 => ?_
    rw [addL_ne (by omega)]
    cases hdj : r.wrB j β with
    | false => simp
    | true =>
      have := hD.later hni h2 (h.cB i j β h1 h2 hd hdj)
      simp [this]
  · rename_i hd
    refine lastLv_congr fun j _ => ?_
    by_cases he : j = i
    · subst he
      simp [hd]
    · rw [addL_ne he]

theorem step_RL (h : r.Ok E ops) (hD : Down r L) (hR : RL r X M w0 L μ ρN a w) (hN : ρN.length = r.n r.N) {i : Nat} (hi : i < r.N) (hni : L i = false) (hrd : ∀ j, r.bef i j = true → L j = true)
    (hR' : R (exV r X L μ i) M w0 (r.S' i) μ' (ρN.take (r.n (i + 1))) a' w') (hf : Fr (r.V i) μ w a (r.dst i) (r.tch i) (r.S' i) μ' a' w') : ∃ μ2, RL r X M w0 (addL L i) μ2 ρN a' w' := by
  obtain ⟨hlv, hF, hRv⟩ := view_ok h hD hR hN hi hni hrd
  have hvl := h.vhlen i hi
  have hal := h.alen i hi
  have hls := h.lenStep hi
  have mv := hf.move
  have hnw : ∀ {β}, r.wrB i β = false → ¬ (r.len i ≤ β ∧ β < r.len (i + 1)) ∧ β ∉ r.tch i := by
    intro β hb
    simp only [Rg.wrB, Bool.or_eq_false_iff, Bool.and_eq_false_iff, decide_eq_false_iff_not, List.contains_eq_mem] at hb
    exact ⟨by omega, hb.1⟩
  have hwr : ∀ {β}, r.wrB i β = true → β ∈ r.tch i ∨ (r.len i ≤ β ∧ β < r.len (i + 1)) := by
    intro β hb
    simpa [Rg.wrB] using hb
  generalize hμ2 : (fun β => if r.wrB i β = true then μ' β else μ β : Mu) = μ2
  have hout : ∀ {β}, r.wrB i β = false → μ2 β = μ β := by
    intro β hb
    rw [← hμ2]
    show (if _ then _ else _) = _
    rw [if_neg (by simp [hb])]
  have hw2 : ∀ {β}, r.wrB i β = true → μ2 β = μ' β := by
    intro β hb
    rw [← hμ2]
    show (if _ then _ else _) = _
    rw [if_pos hb]
  have hin : ∀ {β}, β < r.len (i + 1) → μ2 β = μ' β := by
    intro β hb
    cases hw : r.wrB i β with
    | true => exact hw2 hw
    | false =>
      obtain ⟨h1, h2⟩ := hnw hw
      rw [hout hw, (mv.same β (by rw [hvl]; omega) h2).2]
  have hext : ∀ {β}, ¬ (r.len i ≤ β ∧ β < r.len (i + 1)) → (μ2 β).v = (μ β).v ∧ ∃ ext, (μ2 β).hist = (μ β).hist ++ ext := by
    intro β hb
    cases hw : r.wrB i β with
    | true =>
      rw [hw2 hw]
      rcases hwr hw with h1 | h1
      · exact mv.mu β (live_lt (h.tlive i hi β h1))
      · exact absurd h1 hb
    | false => rw [hout hw]; exact ⟨rfl, [], by simp⟩
  have hheap : ∀ {β}, r.wrB i β = true → (r.A (r.lvB (addL L i) β)).heap[β]? = (r.S' i).heap[β]? := by
    intro β hb
    rw [h.lvB_add hD hi hni, if_pos hb, h.ablk i hi, if_pos hb]
  have hheap' : ∀ {β}, r.wrB i β = false → r.lvB (addL L i) β = r.lvB L β := by
    intro β hb
    rw [h.lvB_add hD hi hni, if_neg (by simp [hb])]
  -- live blocks: old ones and new ones
  have hcase : ∀ {β}, r.liveL (addL L i) β → (r.liveL L β ∧ μ2 β = μ β ∧ r.wrB i β = false) ∨ (r.wrB i β = true ∧ live (r.S' i).heap β ∧ μ2 β = μ' β ∧ ∀ b, (μ2 β).own b → w.heap.size ≤ b ∨ ∃ γ, γ ∈ r.tch i ∧ (μ γ).own b) := by
    intro β hl
    cases hb : r.wrB i β with
    | true =>
      have hlS : live (r.S' i).heap β := by
        obtain ⟨sb, hs, hd⟩ := hl
        rw [hheap hb] at hs
        exact ⟨sb, hs, hd⟩
      refine .inr ⟨rfl, hlS, hw2 hb, fun b hbb => ?_⟩
      rw [hw2 hb] at hbb
      refine mv.own β hlS ?_ b hbb
      rcases hwr hb with h1 | h1
      · exact .inl h1
      · exact .inr (by rw [hvl]; exact h1.1)
    | false =>
      refine .inl ⟨?_, hout hb, rfl⟩
      obtain ⟨sb, hs, hd⟩ := hl
      rw [hheap' hb] at hs
      exact ⟨sb, hs, hd⟩
  have hblk : ∀ b, r.FL X L μ w b → w'.heap[b]? = w.heap[b]? := fun b hb => mv.blk b hb.1.1 fun β ht => hb.2 β (hlv β (h.tlive i hi β ht))
  have hst : Stays (r.FL X L μ w) (r.FL X (addL L i) μ2 w') w w' := by
    refine ⟨fun b hb => ⟨⟨Nat.lt_of_lt_of_le hb.1.1 mv.size, hb.1.2⟩, fun β hl he => ?_⟩, hblk⟩
    rcases hcase hl with ⟨h1, h2, _⟩ | ⟨_, _, _, h3⟩
    · rw [h2] at he; exact hb.2 β h1 he
    · rcases h3 b he with h4 | ⟨γ, h4, h5⟩
      · have := hb.1.1
        omega
      · exact hb.2 γ (hlv γ (h.tlive i hi γ h4)) h5
  have hF2 : ∀ b, Fz (exV r X L μ i) (r.S' i).heap μ' w' b → r.FL X (addL L i) μ2 w' b := by
    rintro b ⟨⟨h1, h2⟩, h3⟩
    refine ⟨⟨h1, fun hx => h2 (.inl hx)⟩, fun β hl he => ?_⟩
    cases hb : r.wrB i β with
    | true =>
      have hlS : live (r.S' i).heap β := by
        obtain ⟨sb, hs, hd⟩ := hl
        rw [hheap hb] at hs
        exact ⟨sb, hs, hd⟩
      rw [hw2 hb] at he
      exact h3 β hlS he
    | false =>
      have hlL : r.liveL L β := by
        obtain ⟨sb, hs, hd⟩ := hl
        rw [hheap' hb] at hs
        exact ⟨sb, hs, hd⟩
      rw [hout hb] at he
      by_cases hv : live (r.V i).heap β
      · have hlt : β < (r.V i).heap.length := live_lt hv
        have hlS : live (r.S' i).heap β := by
          obtain ⟨sb, hs, hd⟩ := hv
          exact ⟨sb, by rw [(mv.same β hlt (hnw hb).2).1]; exact hs, hd⟩
        refine h3 β hlS ?_
        rw [(mv.same β hlt (hnw hb).2).2]
        exact he
      · exact h2 (.inr ⟨β, hlL, hv, he⟩)
  have hgN : Grows (Fz (exV r X L μ i) (r.S' i).heap μ' w') (r.FL X (addL L i) μ2 w') (r.S' i).heap.length (r.len (i + 1)) μ' μ2 (ρN.take (r.n (i + 1))) (ρN.take (r.n (i + 1))) w' w' :=
    ⟨⟨hF2, fun _ _ => rfl⟩, ⟨[], by simp⟩, by rw [hal]; exact Nat.le_refl _, fun β hb => by rw [hin (by rw [hal]; exact hb)]; exact ⟨rfl, [], by simp⟩⟩
  -- what an older level names is not new
  have hp : ∀ {j}, L j = true → j < r.N → MuUp (r.p j) (r.len (j + 1)) μ μ2 := by
    intro j hL hj β hpj hlt
    refine hext fun hrange => ?_
    have hne : j ≠ i := fun e => by rw [e, hni] at hL; cases hL
    have hji : i < j := by
      rcases Nat.lt_or_ge i j with h1 | h1
      · exact h1
      · have := h.lenMono (i := j + 1) (j := i) (by omega) (Nat.le_of_lt hi)
        omega
    have hb1 : r.bef j i = false := by
      cases hb : r.bef j i with
      | false => rfl
      | true => rw [hD.later hni hj hb] at hL; cases hL
    have hb2 : r.bef i j = false := by
      cases hb : r.bef i j with
      | false => rfl
      | true => have := h.befLt i hi j hb; omega
    have := List.all_eq_true.1 hpj i (List.mem_range.2 hi)
    have hu : r.un j i = true := by simp [Rg.un, hb1, hb2]; omega
    simp [hu, hrange.1, hrange.2] at this
  have hgO : ∀ (l : Nat), Grows (r.FL X L μ w) (r.FL X (addL L i) μ2 w') (r.len l) (r.len l) μ2 μ2 (ρN.take (r.n l)) (ρN.take (r.n l)) w w' := fun l => ⟨hst, ⟨[], by simp⟩, Nat.le_refl _, fun _ _ => ⟨rfl, [], by simp⟩⟩
  refine ⟨μ2, hR'.keeps, ?_, hR'.defers, fun k s hs => ?_, fun β sb hs => ?_, fun b hb => Nat.lt_of_lt_of_le (hR.ex b hb) mv.size, fun β γ h1 h2 hne b hb => ?_, fun β h1 b hb => ?_, fun β v hv => ⟨(hR.anc β v hv).1, (hext (by have := (hR.anc β v hv).1; have := h.lenMono (Nat.zero_le i) (Nat.le_of_lt hi); omega)).1.trans (hR.anc β v hv).2⟩⟩
  · obtain ⟨u, rfl⟩ := hf.act
    rw [← hR.size]
    unfold Act.put
    cases r.dst i <;> simp
  · rw [h.lvS_add hD hi hni] at hs ⊢
    split at hs
    · rename_i hd
      rw [if_pos hd]
      rw [h.aslot i hi, if_pos hd] at hs
      exact (hR'.slots k s hs).mono hgN
    · rename_i hd
      rw [if_neg hd]
      have hold := hR.slots k s hs
      obtain ⟨u, rfl⟩ := hf.act
      rw [tmps_put, if_neg (fun e => hd e.1)]
      have h2 : SVR w (r.FL X L μ w) (r.len (r.lvS L k)) μ2 (ρN.take (r.n (r.lvS L k))) s (a.tmps.getD k Go.undef) := by
        rcases lastLv_spec (f := fun i => L i && r.dst i == some k) (N := r.N) with h0 | ⟨j, hj, he, hfj⟩
        · have h0' : r.lvS L k = 0 := h0
          rw [h0'] at hold ⊢
          refine hold.mono ⟨⟨fun _ h => h, fun _ _ => rfl⟩, ⟨[], by simp⟩, Nat.le_refl _, fun β hb => hext ?_⟩
          have := h.lenMono (Nat.zero_le i) (Nat.le_of_lt hi)
          omega
        · have he' : r.lvS L k = j + 1 := he
          simp only [Bool.and_eq_true, beq_iff_eq] at hfj
          rw [he'] at hold hs ⊢
          rw [h.aslot j hj, if_pos hfj.2] at hs
          exact refsSV_ok (hp hfj.1 hj) (h.refS j hj k s hfj.2 hs) hold
      exact h2.mono (hgO _)
  · rw [h.lvB_add hD hi hni] at hs ⊢
    split at hs
    · rename_i hb
      rw [if_pos hb]
      rw [h.ablk i hi, if_pos hb] at hs
      rw [hw2 hb]
      exact (hR'.blocks β sb hs).grow hgN (Nat.le_refl _) (fun _ _ => rfl)
    · rename_i hb
      have hb' : r.wrB i β = false := by simpa using hb
      rw [if_neg hb, hout hb']
      by_cases hd : sb = .dead
      · subst hd; trivial
      · have hold := hR.blocks β sb hs
        have hlL : r.liveL L β := ⟨sb, hs, hd⟩
        have h2 : BlkR (fun b => w0.heap.size ≤ b ∨ M b) w (r.FL X L μ w) (r.len (r.lvB L β)) μ2 (ρN.take (r.n (r.lvB L β))) sb (μ β) := by
          rcases lastLv_spec (f := fun i => L i && r.wrB i β) (N := r.N) with h0 | ⟨j, hj, he, hfj⟩
          · have h0' : r.lvB L β = 0 := h0
            rw [h0'] at hold ⊢
            refine hold.grow ⟨⟨fun _ h => h, fun _ _ => rfl⟩, ⟨[], by simp⟩, Nat.le_refl _, fun γ hγ => hext ?_⟩ (Nat.le_refl _) (fun _ _ => rfl)
            have := h.lenMono (Nat.zero_le i) (Nat.le_of_lt hi)
            omega
          · have he' : r.lvB L β = j + 1 := he
            simp only [Bool.and_eq_true] at hfj
            rw [he'] at hold hs ⊢
            rw [h.ablk j hj, if_pos hfj.2] at hs
            exact refsSB_ok (hp hfj.1 hj) (h.refB j hj β sb hfj.2 hs) hold
        refine h2.grow (hgO _) mv.size fun b hbb => mv.blk b (hR.own_lt hlL hbb) fun γ ht he => ?_
        exact hR.inj β γ hlL (hlv γ (h.tlive i hi γ ht)) (fun e => (hnw hb').2 (by rw [e]; exact ht)) b hbb he
  · rcases hcase h1 with ⟨l1, e1, n1⟩ | ⟨n1, l1, e1, f1⟩
    · rcases hcase h2 with ⟨l2, e2, n2⟩ | ⟨n2, l2, e2, f2⟩
      · rw [e1] at hb; rw [e2]; exact hR.inj β γ l1 l2 hne b hb
      · intro he
        rw [e1] at hb
        rcases f2 b he with h4 | ⟨δ, h4, h5⟩
        · have := hR.own_lt l1 hb
          omega
        · exact hR.inj β δ l1 (hlv δ (h.tlive i hi δ h4)) (fun e => (hnw n1).2 (by rw [e]; exact h4)) b hb h5
    · rcases hcase h2 with ⟨l2, e2, n2⟩ | ⟨n2, l2, e2, f2⟩
      · intro he
        rw [e2] at he
        rcases f1 b hb with h4 | ⟨δ, h4, h5⟩
        · have := hR.own_lt l2 he
          omega
        · exact hR.inj γ δ l2 (hlv δ (h.tlive i hi δ h4)) (fun e => (hnw n2).2 (by rw [e]; exact h4)) b he h5
      · rw [e1] at hb; rw [e2]; exact hR'.inj β γ l1 l2 hne b hb
  · rcases hcase h1 with ⟨l1, e1, _⟩ | ⟨_, l1, e1, _⟩
    · rw [e1] at hb; exact hR.exo β l1 b hb
    · rw [e1] at hb; exact fun hx => hR'.exo β l1 b hb (.inl hx)

end
end Vs

namespace Vs
open Go Go.RowKit

/-- How many operations have not run. -/
def miss (L : Nat → Bool) : Nat → Nat
  | 0 => 0
  | i + 1 => (if L i then 0 else 1) + miss L i

theorem miss_zero {L : Nat → Bool} : ∀ {N : Nat}, miss L N = 0 → ∀ i, i < N → L i = true
  | 0, _, i, hi => absurd hi (Nat.not_lt_zero i)
  | N + 1, h, i, hi => by
    unfold miss at h
    rcases Nat.lt_or_eq_of_le (Nat.le_of_lt_succ hi) with hlt | rfl
    · exact miss_zero (by omega) i hlt
    · cases hL : L i with
      | true => rfl
      | false => rw [hL] at h; simp at h

theorem miss_congr {L L' : Nat → Bool} : ∀ {N : Nat}, (∀ j, j < N → L j = L' j) → miss L N = miss L' N
  | 0, _ => rfl
  | N + 1, h => by unfold miss; rw [h N (Nat.lt_succ_self N), miss_congr fun j hj => h j (Nat.lt_succ_of_lt hj)]

theorem miss_add {L : Nat → Bool} {i : Nat} (hni : L i = false) : ∀ {N : Nat}, i < N → miss (addL L i) N + 1 = miss L N
  | 0, hi => absurd hi (Nat.not_lt_zero i)
  | N + 1, hi => by
    unfold miss
    rcases Nat.lt_or_eq_of_le (Nat.le_of_lt_succ hi) with hlt | rfl
    · have := miss_add hni hlt
      rw [addL_ne (by omega : N ≠ i)]
      omega
    · rw [addL_self, hni]
      rw [miss_congr (L := addL L i) (L' := L) fun j hj => addL_ne (by omega)]
      simp
      omega

theorem miss_le (L : Nat → Bool) : ∀ N, miss L N ≤ N
  | 0 => Nat.le_refl _
  | N + 1 => by
    unfold miss
    have := miss_le L N
    split <;> omega

section
variable {r : Rg} {E : Env} {ops : Array Oper} {X : Nat → Prop} {M : Hand} {w0 w : World} {L : Nat → Bool} {μ : Mu} {ρN : List D} {a : Act} {G : Nat → List D → Option (List D)}

/-- The environment of the order of the text. -/
def Chain (G : Nat → List D → Option (List D)) (r : Rg) (ρN : List D) : Prop :=
  ρN.length = r.n r.N ∧ ∀ i, i < r.N → ((r.g i).ok (ρN.take (r.n i)) = true → effRun G (ρN.take (r.n i)) (r.eff i) = some (ρN.take (r.n (i + 1)))) ∧
    ((r.g i).ok (ρN.take (r.n i)) = false → ρN.take (r.n (i + 1)) = ρN.take (r.n i) ++ List.replicate (effLen (r.eff i)) .undef)

theorem RL_all (h : r.Ok E ops) (hR : RL r X M w0 L μ ρN a w) (hN : ρN.length = r.n r.N) (hL : ∀ i, i < r.N → L i = true) : R X M w0 (r.A r.N) μ ρN a w := by
  have hS : ∀ k, r.lvS L k ≤ r.N ∧ (r.A (r.lvS L k)).slots[k]? = (r.A r.N).slots[k]? := by
    intro k
    refine ⟨lastLv_le _ _, lastLv_val (v := fun i => (r.A i).slots[k]?) fun j hj hf => ?_⟩
    rw [hL j hj, Bool.true_and] at hf
    show (r.A (j + 1)).slots[k]? = _
    rw [h.aslot j hj, if_neg (by simpa using hf)]
  have hB : ∀ β, r.lvB L β ≤ r.N ∧ (r.A (r.lvB L β)).heap[β]? = (r.A r.N).heap[β]? := by
    intro β
    refine ⟨lastLv_le _ _, lastLv_val (v := fun i => (r.A i).heap[β]?) fun j hj hf => ?_⟩
    rw [hL j hj, Bool.true_and] at hf
    show (r.A (j + 1)).heap[β]? = _
    rw [h.ablk j hj, if_neg (by simp [hf])]
  have hlv : ∀ β, r.liveL L β ↔ live (r.A r.N).heap β := by
    intro β
    unfold Rg.liveL live
    rw [(hB β).2]
  have hF : r.FL X L μ w = Fz X (r.A r.N).heap μ w := by
    funext b
    simp only [Rg.FL, Fz, hlv]
  have hgr : ∀ {l : Nat}, l ≤ r.N → Grows (r.FL X L μ w) (Fz X (r.A r.N).heap μ w) (r.len l) (r.A r.N).heap.length μ μ (ρN.take (r.n l)) ρN w w := by
    intro l hl
    rw [hF]
    exact ⟨⟨fun _ h => h, fun _ _ => rfl⟩, ⟨ρN.drop (r.n l), (List.take_append_drop _ _).symm⟩, h.lenMono hl (Nat.le_refl _), fun _ _ => ⟨rfl, [], by simp⟩⟩
  refine ⟨hR.keeps, hN, ?_, hR.defers, fun k s hs => ?_, fun β sb hs => ?_, hR.ex, fun β γ h1 h2 => hR.inj β γ ((hlv β).2 h1) ((hlv γ).2 h2), fun β h1 => hR.exo β ((hlv β).2 h1), fun β v hv => ⟨Nat.lt_of_lt_of_le (hR.anc β v hv).1 (h.lenMono (Nat.zero_le _) (Nat.le_refl _)), (hR.anc β v hv).2⟩⟩
  · rw [hR.size, h.slenMono r.N (Nat.le_refl _)]
  · exact (hR.slots k s (by rw [(hS k).2]; exact hs)).mono (hgr (hS k).1)
  · exact (hR.blocks β sb (by rw [(hB β).2]; exact hs)).grow (hgr (hB β).1) (Nat.le_refl _) (fun _ _ => rfl)

theorem RL_none (hR : R X M w0 (r.A 0) μ (ρN.take (r.n 0)) a w) (hL : ∀ i, i < r.N → L i = false) : RL r X M w0 L μ ρN a w := by
  have h0 : ∀ (f : Nat → Bool), lastLv (fun i => L i && f i) r.N = 0 := by
    intro f
    rcases lastLv_spec (f := fun i => L i && f i) (N := r.N) with h | ⟨j, hj, _, hf⟩
    · exact h
    · rw [hL j hj] at hf; cases hf
  have hS : ∀ k, r.lvS L k = 0 := fun k => h0 _
  have hB : ∀ β, r.lvB L β = 0 := fun β => h0 _
  have hF : r.FL X L μ w = Fz X (r.A 0).heap μ w := by
    funext b
    simp only [Rg.FL, Fz, Rg.liveL, hB]
  refine ⟨hR.keeps, hR.size, hR.defers, fun k s hs => ?_, fun β sb hs => ?_, hR.ex, fun β γ h1 h2 => ?_, fun β h1 => ?_, hR.anc⟩
  · rw [hS k] at hs ⊢; rw [hF]; exact hR.slots k s hs
  · rw [hB β] at hs ⊢; rw [hF]; exact hR.blocks β sb hs
  · unfold Rg.liveL at h1 h2
    rw [hB] at h1 h2
    exact hR.inj β γ h1 h2
  · unfold Rg.liveL at h1
    rw [hB] at h1
    exact hR.exo β h1

theorem any_ok (hE : EnvOk E G) (h : r.Ok E ops) (hC : Chain G r ρN) {Q : Exit → Act → World → Prop} (hQ : ∀ μ a w, R X M w0 (r.A r.N) μ ρN a w → Q .normal a w) :
    ∀ (fuel : Nat) (listed : Array Bool) (μ : Mu) (a : Act) (w : World), listed.size = r.N → Down r (fun i => listed.getD i false) → RL r X M w0 (fun i => listed.getD i false) μ ρN a w → miss (fun i => listed.getD i false) r.N ≤ fuel →
      wpAny E.P .any ops Q fuel listed a w := by
  have hready : ∀ (listed : Array Bool) i, listed.size = r.N → i ∈ Region.ready .any ops listed → i < r.N ∧ listed.getD i false = false ∧ ∀ o e, ops[i]? = some o → e ∈ o.after → Region.binds .any e = true → listed.getD e.on false = true := by
    intro listed i hs hi
    simp only [Region.ready, List.mem_filter, List.mem_range, Bool.and_eq_true, Bool.not_eq_true'] at hi
    obtain ⟨h1, h2, h3⟩ := hi
    have hiN : i < r.N := by rw [← h.size]; exact h1
    refine ⟨hiN, ?_, fun o e ho he hb => ?_⟩
    · have : i < listed.size := by rw [hs]; exact hiN
      simp [Array.getD, this] at h2 ⊢
      exact h2
    · rw [ho] at h3
      simp only [Option.map_some, Option.getD_some] at h3
      rw [Array.all_eq_true_iff_forall_mem] at h3
      have := h3 e he
      simpa [hb] using this
  have hnil : ∀ (listed : Array Bool), listed.size = r.N → Region.ready .any ops listed = [] → ∀ i, i < r.N → listed.getD i false = true := by
    intro listed hs hr i
    induction i using Nat.strongRecOn with
    | ind i ih =>
      intro hi
      cases hl : listed.getD i false with
      | true => rfl
      | false =>
        have hsz : i < ops.size := by rw [h.size]; exact hi
        have : i ∈ Region.ready .any ops listed := by
          simp only [Region.ready, List.mem_filter, List.mem_range, Bool.and_eq_true, Bool.not_eq_true']
          refine ⟨hsz, ?_, ?_⟩
          · have : i < listed.size := by rw [hs]; exact hi
            simp [Array.getD, this] at hl ⊢
            exact hl
          · rw [show ops[i]? = some ops[i] by simp [hsz]]
            simp only [Option.map_some, Option.getD_some]
            rw [Array.all_eq_true_iff_forall_mem]
            intro e he
            cases hb : Region.binds .any e with
            | false => simp
            | true =>
              have hlt := h.edgeLt i ops[i] e (by simp [hsz]) he hb
              simp [ih e.on hlt (Nat.lt_trans hlt hi)]
        rw [hr] at this
        cases this
  intro fuel
  induction fuel with
  | zero =>
    intro listed μ a w hs hD hR hm
    have hall := miss_zero (Nat.le_zero.1 hm)
    refine ⟨?_, hQ μ a w (RL_all h hR hC.1 hall)⟩
    cases hrd : Region.ready .any ops listed with
    | nil => rfl
    | cons i is =>
      obtain ⟨h1, h2, _⟩ := hready listed i hs (by rw [hrd]; exact List.mem_cons_self)
      rw [hall i h1] at h2
      cases h2
  | succ fuel ih =>
    intro listed μ a w hs hD hR hm
    refine ⟨fun hr => hQ μ a w (RL_all h hR hC.1 (hnil listed hs hr)), fun i hi => ?_⟩
    obtain ⟨hiN, hni, hed⟩ := hready listed i hs hi
    have hsz : i < ops.size := by rw [h.size]; exact hiN
    have ho : ops[i]? = some ops[i] := by simp [hsz]
    have hrd : ∀ j, r.bef i j = true → listed.getD j false = true := by
      intro j hj
      obtain ⟨e, he, hb, hor⟩ := h.befE i ops[i] j ho hj
      have he' := hed ops[i] e ho he hb
      have hlt := h.edgeLt i ops[i] e ho he hb
      rcases hor with rfl | h2
      · exact he'
      · exact hD.bef e.on j (Nat.lt_trans hlt hiN) he' h2
    obtain ⟨hsop, hdst⟩ := h.op i ops[i] ho
    obtain ⟨hlv, hF, hRv⟩ := view_ok h hD hR hC.1 hiN hni hrd
    obtain ⟨hw, hgg, hno, hyes⟩ := sop_ok hE hsop hRv
    obtain ⟨hc1, hc2⟩ := hC.2 i hiN
    have hLeq : (fun j => (listed.setIfInBounds i true).getD j false) = addL (fun j => listed.getD j false) i := by
      funext j
      by_cases he : j = i
      · subst he
        have : j < listed.size := by rw [hs]; exact hiN
        simp [addL, Array.getD, this]
      · simp only [addL]
        have hne : i ≠ j := fun e => he e.symm
        simp [Array.getD_eq_getD_getElem?, Array.getElem?_setIfInBounds_ne hne, he]
    have hgo : ∀ μ' a' w', R (exV r X (fun j => listed.getD j false) μ i) M w0 (r.S' i) μ' (ρN.take (r.n (i + 1))) a' w' → Fr (r.V i) μ w a (r.dst i) (r.tch i) (r.S' i) μ' a' w' →
        wpAny E.P .any ops Q fuel (listed.setIfInBounds i true) a' w' := by
      intro μ' a' w' hR' hf
      obtain ⟨μ2, hR2⟩ := step_RL h hD hR hC.1 hiN hni hrd hR' hf
      refine ih _ μ2 a' w' (by simp [hs]) ?_ ?_ ?_
      · rw [hLeq]; exact hD.add hrd
      · rw [hLeq]; exact hR2
      · rw [hLeq]
        have := miss_add (L := fun j => listed.getD j false) (i := i) hni hiN
        omega
    unfold wpOp
    simp only [ho]
    rw [hw]
    cases hok : (r.g i).ok (ρN.take (r.n i)) with
    | true =>
      simp only [if_true]
      refine .inl (hyes hok _ (hc1 hok) _ _ fun μ' a' w' hR' hf => ?_)
      rw [hdst] at hf
      exact hgo μ' a' w' hR' hf
    | false =>
      simp only [Bool.false_eq_true, if_false]
      obtain ⟨hh, ht, hR'⟩ := hno hok
      rw [← hc2 hok] at hR'
      rw [hdst] at hR' ⊢
      exact hgo μ _ w hR' ⟨⟨_, rfl⟩, by rw [hh, ht]; exact Move.none rfl rfl rfl rfl⟩

theorem region_any_ok (hE : EnvOk E G) (h : r.Ok E ops) (hm : E.P.follows .mixedOrders = true) (hC : Chain G r ρN) (hR : R X M w0 (r.A 0) μ (ρN.take (r.n 0)) a w) {Q : Exit → Act → World → Prop} {id : Nat}
    (hQ : ∀ μ a w, R X M w0 (r.A r.N) μ ρN a w → Q .normal a w) : (Code.region id ops true).wp E.P Q a w := by
  refine wp_region_any hm ?_
  have hL : ∀ i, (Array.replicate ops.size false).getD i false = false := by
    intro i
    simp only [Array.getD_eq_getD_getElem?]
    rw [Array.getElem?_replicate]
    split <;> rfl
  refine any_ok hE h hC hQ _ _ μ a _ (by simp [h.size]) ⟨fun i j _ hi => by rw [hL i] at hi; cases hi⟩ (RL_none (R_quiet hR (Quiet.drew w)) fun i _ => hL i) ?_
  rw [h.size]
  exact miss_le _ _

end
end Vs

namespace Vs
open Go Go.RowKit

structure Rec where
  A : SS
  V : SS
  S' : SS
  g : Guard
  eff : Eff

/-- What is told ahead of a region: each operation's place, the block that it writes, the own blocks before it, and which operations come before it in every order. -/
structure Hint where
  dsts : List (Option Nat)
  tchs : List (List Nat)
  lens : List Nat
  masks : List Nat

namespace Hint
variable (H : Hint)
def N : Nat := H.dsts.length
def dst (i : Nat) : Option Nat := (H.dsts[i]?).join
def tch (i : Nat) : List Nat := (H.tchs[i]?).getD []
def len (i : Nat) : Nat := (H.lens[i]?).getD 0
def bef (i j : Nat) : Bool := decide (j < i) && ((H.masks[i]?).getD 0).testBit j
def un (i j : Nat) : Bool := j != i && !H.bef i j && !H.bef j i
def wrB (i β : Nat) : Bool := (H.tch i).contains β || (decide (H.len i ≤ β) && decide (β < H.len (i + 1)))
def p (i β : Nat) : Bool := (List.range H.N).all fun j => !(H.un i j && decide (H.len j ≤ β) && decide (β < H.len (j + 1)))
def badS (i : Nat) : List Nat := (List.range H.N).filterMap fun j => if H.un i j then H.dst j else none
end Hint

def maskS (bad : List Nat) (l : List SV) : List SV := bad.foldl (fun l k => l.set k SV.undef) l
def maskB (wr : Nat → Bool) (l : List SB) : List SB := l.zipIdx.map fun (sb, β) => if wr β then .dead else sb

def viewOf (H : Hint) (A : SS) (i : Nat) : SS :=
  { A with slots := maskS (H.badS i) A.slots, heap := maskB (fun β => (List.range H.N).any fun j => H.un i j && H.wrB j β) A.heap }

def overB (S' : SS) (tch : List Nat) (h : List SB) : List SB := tch.foldl (fun h β => h.set β (S'.heap.getD β .dead)) h
def nextOf (dst : Option Nat) (tch : List Nat) (A S' : SS) : SS :=
  { n := S'.n, slots := (match dst with | some d => A.slots.set d (S'.slots.getD d SV.undef) | none => A.slots),
    heap := overB S' tch A.heap ++ S'.heap.drop A.heap.length }

def stepB (H : Hint) (i : Nat) (o : Oper) (A V S' : SS) (eff : Eff) (tch : List Nat) : Bool :=
  decide (o.dst = H.dst i) && decide (tch = H.tch i) && (o.after.toList.all fun e => !Region.binds .any e || decide (e.on < i)) &&
  ((List.range i).all fun j => !H.bef i j || o.after.toList.any fun e => Region.binds .any e && (j == e.on || H.bef e.on j)) &&
  (S'.n == A.n + effLen eff) && (S'.slots.length == A.slots.length) && (match o.dst with | some d => decide (d < A.slots.length) | none => true) &&
  (A.heap.length == H.len i) && decide (A.heap.length ≤ S'.heap.length) && (S'.heap.length == H.len (i + 1)) &&
  ((H.tch i).all fun β => liveB V.heap β && (match S'.heap[β]? with | some sb => refsSB (H.p i) sb | none => true)) &&
  ((List.range i).all fun j => H.bef i j || ((H.dst i == none || H.dst i != H.dst j) && ((H.tch i).all fun β => !H.wrB j β))) &&
  (match o.dst with | some d => (match S'.slots[d]? with | some s => refsSV (H.p i) s | none => true) | none => true) &&
  (S'.heap.drop A.heap.length).all (refsSB (H.p i))

def gdB (g : Guard) (n : Nat) : Bool := match g with | some (.v k, _) => decide (k < n) | some (.c _, _) => false | none => true

def build (E : Env) (ops : List Oper) (H : Hint) : List Oper → Nat → SS → Res (List Rec × SS)
  | [], _, A => .ok ([], A)
  | o :: os, i, A => do
    let V := viewOf H A i
    let (S', g, eff, tch) ← sop E ops V o
    if stepB H i o A V S' eff tch = true ∧ gdB g A.n = true then do
      let (rs, Z) ← build E ops H os (i + 1) (nextOf o.dst (H.tch i) A S')
      .ok ({ A, V, S', g, eff } :: rs, Z)
    else .error "a region whose order is open"

/-- The plan out of its records. -/
def rgOf (H : Hint) (rs : List Rec) (Z : SS) : Rg where
  N := rs.length
  A i := match rs[i]? with | some r => r.A | none => Z
  V i := match rs[i]? with | some r => r.V | none => Z
  S' i := match rs[i]? with | some r => r.S' | none => Z
  g i := match rs[i]? with | some r => r.g | none => none
  eff i := match rs[i]? with | some r => r.eff | none => .prims []
  dst := H.dst
  tch := H.tch
  bef := H.bef

/-! ### What the builder gives -/
theorem build_ok {E : Env} {ops : List Oper} {H : Hint} : ∀ {os : List Oper} {i : Nat} {A Z : SS} {rs : List Rec}, build E ops H os i A = .ok (rs, Z) →
    rs.length = os.length ∧ (match rs[0]? with | some r => r.A | none => Z) = A ∧ ∀ (k : Nat) o, os[k]? = some o → ∃ r, rs[k]? = some r ∧ r.V = viewOf H r.A (i + k) ∧ sop E ops r.V o = .ok (r.S', r.g, r.eff, H.tch (i + k)) ∧
      (stepB H (i + k) o r.A r.V r.S' r.eff (H.tch (i + k)) = true ∧ gdB r.g r.A.n = true) ∧ (match rs[k + 1]? with | some r' => r'.A | none => Z) = nextOf o.dst (H.tch (i + k)) r.A r.S'
  | [], i, A, Z, rs, h => by
    simp only [build, Except.ok.injEq, Prod.mk.injEq] at h
    obtain ⟨rfl, rfl⟩ := h
    exact ⟨rfl, rfl, by simp⟩
  | o :: os, i, A, Z, rs, h => by
    simp only [build] at h
    obtain ⟨⟨S', g, eff, tch⟩, h1, h2⟩ := bind_ok h
    dsimp only at h2
    split at h2
    · rename_i hs
      have htc : tch = H.tch i := by
        have := hs.1
        unfold stepB at this
        simp only [Bool.and_eq_true] at this
        simpa using this.1.1.1.1.1.1.1.1.1.1.1.1.2
      subst htc
      obtain ⟨⟨rs', Z'⟩, h3, h4⟩ := bind_ok h2
      simp only [Except.ok.injEq, Prod.mk.injEq] at h4
      obtain ⟨rfl, rfl⟩ := h4
      obtain ⟨i1, i2, i3⟩ := build_ok h3
      refine ⟨by simp [i1], rfl, fun k o' hk => ?_⟩
      cases k with
      | zero =>
        simp only [List.getElem?_cons_zero, Option.some.injEq] at hk
        subst hk
        exact ⟨_, rfl, rfl, h1, hs, by simpa using i2⟩
      | succ k =>
        simp only [List.getElem?_cons_succ] at hk
        obtain ⟨r, r1, r2, r3, r4, r5⟩ := i3 k o' hk
        refine ⟨r, by simpa using r1, ?_, ?_, ?_, ?_⟩
        · rw [r2, show i + 1 + k = i + (k + 1) from by omega]
        · rw [show i + (k + 1) = i + 1 + k from by omega]; exact r3
        · rw [show i + (k + 1) = i + 1 + k from by omega]; exact r4
        · rw [show i + (k + 1) = i + 1 + k from by omega]; simpa using r5
    · cases h2

theorem maskS_length (bad : List Nat) : ∀ (l : List SV), (maskS bad l).length = l.length := by
  unfold maskS
  induction bad with
  | nil => intro l; rfl
  | cons k bad ih => intro l; simp only [List.foldl_cons]; rw [ih]; simp

theorem maskS_get (bad : List Nat) : ∀ (l : List SV) (k : Nat) s, (maskS bad l)[k]? = some s → s = SV.undef ∨ (l[k]? = some s ∧ k ∉ bad) := by
  unfold maskS
  induction bad with
  | nil => intro l k s h; exact .inr ⟨h, by simp⟩
  | cons b bad ih =>
    intro l k s h
    simp only [List.foldl_cons] at h
    rcases ih _ k s h with h1 | ⟨h1, h2⟩
    · exact .inl h1
    · by_cases he : b = k
      · subst he
        left
        by_cases hlt : b < l.length
        · rw [List.getElem?_set_self hlt] at h1; simpa using h1.symm
        · rw [List.getElem?_eq_none (by simp; omega)] at h1; cases h1
      · rw [List.getElem?_set_ne he] at h1
        exact .inr ⟨h1, by simp [h2]; exact fun e => he e.symm⟩

theorem maskB_get {wr : Nat → Bool} {l : List SB} {β : Nat} {sb : SB} (h : (maskB wr l)[β]? = some sb) : sb = .dead ∨ (l[β]? = some sb ∧ wr β = false) := by
  unfold maskB at h
  rw [List.getElem?_map, List.getElem?_zipIdx] at h
  simp only [Option.map_map, Option.map_eq_some_iff, Function.comp] at h
  obtain ⟨x, hx, he⟩ := h
  simp only [Nat.zero_add] at he
  split at he
  · exact .inl he.symm
  · rename_i hw
    subst he
    exact .inr ⟨hx, by simpa using hw⟩

theorem overB_length {S' : SS} : ∀ {tch : List Nat} {h : List SB}, (overB S' tch h).length = h.length
  | [], h => rfl
  | β :: t, h => by
    show (overB S' t (h.set β _)).length = _
    rw [overB_length]; simp

theorem overB_get {S' : SS} {β : Nat} (hS : β < S'.heap.length) : ∀ {tch : List Nat} {h : List SB}, β < h.length → (β ∈ tch → (overB S' tch h)[β]? = S'.heap[β]?) ∧ (β ∉ tch → (overB S' tch h)[β]? = h[β]?) ∧ (h[β]? = S'.heap[β]? → (overB S' tch h)[β]? = S'.heap[β]?)
  | [], h, _ => ⟨fun h => by simp at h, fun _ => rfl, fun h => h⟩
  | γ :: t, h, hl => by
    have e : overB S' (γ :: t) h = overB S' t (h.set γ (S'.heap.getD γ .dead)) := rfl
    obtain ⟨i1, i2, i3⟩ := overB_get (tch := t) (h := h.set γ (S'.heap.getD γ .dead)) hS (by simpa using hl)
    rw [e]
    have self : γ = β → (h.set γ (S'.heap.getD γ .dead))[β]? = S'.heap[β]? := fun e => by
      subst e
      rw [List.getElem?_set_self hl]
      simp [List.getD_eq_getElem?_getD, hS]
    refine ⟨fun hm => ?_, fun hn => ?_, fun he => ?_⟩
    · by_cases hc : γ = β
      · exact i3 (self hc)
      · rcases List.mem_cons.1 hm with h1 | h1
        · exact absurd h1.symm hc
        · exact i1 h1
    · simp only [List.mem_cons, not_or] at hn
      rw [i2 hn.2, List.getElem?_set_ne (fun e => hn.1 e.symm)]
    · by_cases hc : γ = β
      · exact i3 (self hc)
      · exact i3 (by rw [List.getElem?_set_ne hc]; exact he)

end Vs

namespace Vs
open Go Go.RowKit

section
variable {E : Env} {ops : Array Oper} {H : Hint} {rs : List Rec} {S0 Z : SS}

structure RecAt (E : Env) (ops : Array Oper) (H : Hint) (r : Rg) (i : Nat) (o : Oper) : Prop where
  view : r.V i = viewOf H (r.A i) i
  sop : sop E ops.toList (r.V i) o = .ok (r.S' i, r.g i, r.eff i, H.tch i)
  step : stepB H i o (r.A i) (r.V i) (r.S' i) (r.eff i) (H.tch i) = true
  gd : gdB (r.g i) (r.A i).n = true
  next : r.A (i + 1) = nextOf o.dst (H.tch i) (r.A i) (r.S' i)

theorem rec_at (h : build E ops.toList H ops.toList 0 S0 = .ok (rs, Z)) : rs.length = ops.size ∧ (rgOf H rs Z).A 0 = S0 ∧ (rgOf H rs Z).A rs.length = Z ∧ ∀ i o, ops[i]? = some o → RecAt E ops H (rgOf H rs Z) i o := by
  obtain ⟨h1, h2, h3⟩ := build_ok h
  refine ⟨by simpa using h1, h2, ?_, fun i o ho => ?_⟩
  · simp [rgOf]
  · obtain ⟨rc, r1, r2, r3, r4, r5⟩ := h3 i o (by simpa using ho)
    rw [Nat.zero_add] at r2 r3 r4 r5
    have eA : (rgOf H rs Z).A i = rc.A := by simp [rgOf, r1]
    have eV : (rgOf H rs Z).V i = rc.V := by simp [rgOf, r1]
    have eS : (rgOf H rs Z).S' i = rc.S' := by simp [rgOf, r1]
    have eg : (rgOf H rs Z).g i = rc.g := by simp [rgOf, r1]
    have ee : (rgOf H rs Z).eff i = rc.eff := by simp [rgOf, r1]
    refine ⟨?_, ?_, ?_, ?_, ?_⟩
    · rw [eV, eA]; exact r2
    · rw [eV, eS, eg, ee]; exact r3
    · rw [eA, eV, eS, ee]; exact r4.1
    · rw [eg, eA]; exact r4.2
    · rw [eA, eS]; exact r5

/-- What a step's check says. -/
structure StepD (H : Hint) (i : Nat) (o : Oper) (A V S' : SS) (eff : Eff) (tch : List Nat) : Prop where
  dst : o.dst = H.dst i
  tch : tch = H.tch i
  edge : ∀ e, e ∈ o.after → Region.binds .any e = true → e.on < i
  bef : ∀ j, j < i → H.bef i j = true → ∃ e, e ∈ o.after ∧ Region.binds .any e = true ∧ (j = e.on ∨ H.bef e.on j = true)
  n : S'.n = A.n + effLen eff
  slen : S'.slots.length = A.slots.length
  dlt : ∀ d, o.dst = some d → d < A.slots.length
  hlen : A.heap.length = H.len i
  hgrow : A.heap.length ≤ S'.heap.length
  hlen' : S'.heap.length = H.len (i + 1)
  tl : ∀ β, β ∈ H.tch i → live V.heap β ∧ ∀ sb, S'.heap[β]? = some sb → refsSB (H.p i) sb = true
  pair : ∀ j, j < i → H.bef i j = true ∨ ((H.dst i = none ∨ H.dst i ≠ H.dst j) ∧ ∀ β, β ∈ H.tch i → H.wrB j β = false)
  refS : ∀ d s, o.dst = some d → S'.slots[d]? = some s → refsSV (H.p i) s = true
  refN : ∀ sb, sb ∈ S'.heap.drop A.heap.length → refsSB (H.p i) sb = true

theorem stepB_ok {i : Nat} {o : Oper} {A V S' : SS} {eff : Eff} {tch : List Nat} (h : stepB H i o A V S' eff tch = true) : StepD H i o A V S' eff tch := by
  unfold stepB at h
  simp only [Bool.and_eq_true] at h
  obtain ⟨⟨⟨⟨⟨⟨⟨⟨⟨⟨⟨⟨⟨c1, c2⟩, c3⟩, c4⟩, c5⟩, c6⟩, c7⟩, c8⟩, c8'⟩, c9⟩, c10⟩, c11⟩, c12⟩, c13⟩ := h
  refine ⟨by simpa using c1, by simpa using c2, fun e he hb => ?_, fun j hj hb => ?_, by simpa using c5, by simpa using c6, fun d hd => ?_, by simpa using c8, by simpa using c8', by simpa using c9, fun β hβ => ?_, fun j hj => ?_, fun d s hd hs => ?_, fun sb hsb => ?_⟩
  · have := List.all_eq_true.1 c3 e (by simpa using he)
    simpa [hb] using this
  · have := List.all_eq_true.1 c4 j (List.mem_range.2 hj)
    simp only [hb, Bool.not_true, Bool.false_or, List.any_eq_true, Bool.and_eq_true, Bool.or_eq_true, beq_iff_eq] at this
    obtain ⟨e, h1, h2, h3⟩ := this
    exact ⟨e, by simpa using h1, h2, h3⟩
  · rw [hd] at c7; simpa using c7
  · have c := List.all_eq_true.1 c10 β hβ
    simp only [Bool.and_eq_true] at c
    refine ⟨liveB_iff.1 c.1, fun sb hs => ?_⟩
    have := c.2
    rw [hs] at this
    exact this
  · have := List.all_eq_true.1 c11 j (List.mem_range.2 hj)
    simp only [Bool.or_eq_true, Bool.and_eq_true, beq_iff_eq, bne_iff_ne, ne_eq] at this
    rcases this with h1 | ⟨h1, h2⟩
    · exact .inl h1
    · refine .inr ⟨h1, fun β hβ => ?_⟩
      have := List.all_eq_true.1 h2 β hβ
      simpa using this
  · rw [hd] at c12
    simp only [hs] at c12
    exact c12
  · exact List.all_eq_true.1 c13 sb hsb

theorem rg_ok (h : build E ops.toList H ops.toList 0 S0 = .ok (rs, Z)) (hn : H.N = ops.size) : (rgOf H rs Z).Ok E ops := by
  obtain ⟨hlen, hA0, hAN, hrec⟩ := rec_at h
  generalize hr : rgOf H rs Z = r at *
  have hN : r.N = ops.size := by rw [← hr]; exact hlen
  have hdst : r.dst = H.dst := by rw [← hr]; rfl
  have htch : r.tch = H.tch := by rw [← hr]; rfl
  have hbef : r.bef = H.bef := by rw [← hr]; rfl
  have at' : ∀ i, i < r.N → ∃ o, ops[i]? = some o ∧ RecAt E ops H r i o ∧ StepD H i o (r.A i) (r.V i) (r.S' i) (r.eff i) (H.tch i) := by
    intro i hi
    have : i < ops.size := by rw [← hN]; exact hi
    have ho : ops[i]? = some ops[i] := by simp [this]
    exact ⟨_, ho, hrec i _ ho, stepB_ok (hrec i _ ho).step⟩
  have hvh : ∀ i, i < r.N → (r.V i).heap.length = (r.A i).heap.length := by
    intro i hi
    obtain ⟨o, _, hR, _⟩ := at' i hi
    rw [hR.view]
    simp [viewOf, maskB]
  have hgrow : ∀ i, i < r.N → (r.A i).heap.length ≤ (r.S' i).heap.length := by
    intro i hi
    obtain ⟨o, _, hR, hS⟩ := at' i hi
    exact hS.hgrow
  have hlenS : ∀ i, i < r.N → r.len (i + 1) = (r.S' i).heap.length := by
    intro i hi
    obtain ⟨o, _, hR, hS⟩ := at' i hi
    have := hgrow i hi
    unfold Rg.len
    rw [hR.next]
    simp only [nextOf, List.length_append, List.length_drop, overB_length]
    omega
  have hlenI : ∀ i, i < r.N → r.len i = H.len i := fun i hi => (at' i hi).elim fun o h => h.2.2.hlen
  have hlenI' : ∀ i, i < r.N → r.len (i + 1) = H.len (i + 1) := fun i hi => by
    obtain ⟨o, _, _, hS⟩ := at' i hi
    rw [hlenS i hi, hS.hlen']
  have hwrB : ∀ i β, i < r.N → r.wrB i β = H.wrB i β := by
    intro i β hi
    simp only [Rg.wrB, Hint.wrB, htch, hlenI i hi, hlenI' i hi]
  have hun : ∀ i j, r.un i j = H.un i j := by intro i j; simp only [Rg.un, Hint.un, hbef]
  have hp : ∀ i, r.p i = H.p i := by
    intro i
    funext β
    simp only [Rg.p, Hint.p]
    rw [hn, ← hN]
    rw [Bool.eq_iff_iff, List.all_eq_true, List.all_eq_true]
    constructor
    · intro hh j hj
      have := hh j hj
      have hj' := List.mem_range.1 hj
      rw [hun, hlenI j hj', hlenI' j hj'] at this
      exact this
    · intro hh j hj
      have := hh j hj
      have hj' := List.mem_range.1 hj
      rw [hun, hlenI j hj', hlenI' j hj']
      exact this
  have hlmono : ∀ i j, i ≤ j → j ≤ r.N → r.len i ≤ r.len j := by
    intro i j hij
    induction j with
    | zero => intro _; rw [Nat.le_zero.1 hij]; exact Nat.le_refl _
    | succ j ih =>
      intro hj
      rcases Nat.lt_or_eq_of_le hij with hlt | rfl
      · refine Nat.le_trans (ih (Nat.le_of_lt_succ hlt) (Nat.le_of_lt hj)) ?_
        rw [hlenS j hj]
        exact hgrow j hj
      · exact Nat.le_refl _
  refine
    { size := hN.symm
      op := fun i o ho => ?_
      edgeLt := fun i o e ho he hb => (stepB_ok (hrec i o ho).step).edge e he hb
      befE := fun i o j ho hb => ?_
      vn := fun i hi => ?_
      vslen := fun i hi => ?_
      vslot := fun i hi k s hs => ?_
      vhlen := hvh
      vblk := fun i hi β sb hs => ?_
      an := fun i hi => ?_
      anMono := fun i hi => ?_
      aslen := fun i hi => ?_
      aslot := fun i hi k => ?_
      alen := hlenS
      ablk := fun i hi β => ?_
      lenS := fun i hi => by rw [hlenS i hi]; exact hgrow i hi
      tlive := fun i hi β ht => ?_
      cS := fun i j k hij hj h1 h2 => ?_
      cB := fun i j β hij hj h1 h2 => ?_
      refS := fun i hi k s hd hs => ?_
      refB := fun i hi β sb hw hs => ?_ }
  · have hS := stepB_ok (hrec i o ho).step
    exact ⟨by rw [htch]; exact (hrec i o ho).sop, by rw [hdst]; exact hS.dst⟩
  · rw [hbef] at hb ⊢
    have hj : j < i := by
      simp only [Hint.bef, Bool.and_eq_true, decide_eq_true_eq] at hb
      exact hb.1
    exact (stepB_ok (hrec i o ho).step).bef j hj hb
  · obtain ⟨o, _, hR, _⟩ := at' i hi
    rw [hR.view]; rfl
  · obtain ⟨o, _, hR, _⟩ := at' i hi
    rw [hR.view]; exact maskS_length _ _
  · obtain ⟨o, _, hR, _⟩ := at' i hi
    rw [hR.view] at hs
    rcases maskS_get _ _ k s hs with h1 | ⟨h1, h2⟩
    · exact .inl h1
    · refine .inr ⟨h1, fun j hj hu hd => h2 ?_⟩
      simp only [Hint.badS, List.mem_filterMap, List.mem_range]
      refine ⟨j, by rw [hn, ← hN]; exact hj, ?_⟩
      rw [← hun, hu, ← hdst, hd]
      rfl
  · obtain ⟨o, _, hR, _⟩ := at' i hi
    rw [hR.view] at hs
    have hs' : (maskB (fun β => (List.range H.N).any fun j => H.un i j && H.wrB j β) (r.A i).heap)[β]? = some sb := hs
    rcases maskB_get hs' with h1 | ⟨h1, h2⟩
    · exact .inl h1
    · refine .inr ⟨h1, fun j hj hu => ?_⟩
      rw [List.any_eq_false] at h2
      have := h2 j (List.mem_range.2 (by rw [hn, ← hN]; exact hj))
      rw [← hun, hu, Bool.true_and, ← hwrB j β hj] at this
      simpa using this
  · obtain ⟨o, _, hR, _⟩ := at' i hi
    show (r.A (i + 1)).n = _
    rw [hR.next]; rfl
  · obtain ⟨o, _, hR, hS⟩ := at' i hi
    show (r.A i).n ≤ (r.A (i + 1)).n
    rw [hR.next]
    show _ ≤ (r.S' i).n
    rw [hS.n]
    exact Nat.le_add_right _ _
  · obtain ⟨o, _, hR, _⟩ := at' i hi
    rw [hR.next]
    simp only [nextOf]
    split <;> simp
  · obtain ⟨o, _, hR, hS⟩ := at' i hi
    rw [hR.next, hdst, ← hS.dst]
    simp only [nextOf]
    cases hd : o.dst with
    | none => simp
    | some d =>
      have hlt := hS.dlt d hd
      simp only [Option.some.injEq]
      split
      · rename_i he
        subst he
        rw [List.getElem?_set_self hlt]
        have : d < (r.S' i).slots.length := by rw [hS.slen]; exact hlt
        simp [List.getD_eq_getElem?_getD, this]
      · rename_i he
        rw [List.getElem?_set_ne he]
  · obtain ⟨o, _, hR, hS⟩ := at' i hi
    have hg := hgrow i hi
    rw [hR.next]
    simp only [nextOf]
    have hlA : r.len i = (r.A i).heap.length := rfl
    rcases Nat.lt_or_ge β (r.A i).heap.length with hlt | hge
    · rw [List.getElem?_append_left (by rw [overB_length]; exact hlt)]
      obtain ⟨g1, g2, _⟩ := overB_get (S' := r.S' i) (tch := H.tch i) (h := (r.A i).heap) (β := β) (by omega) hlt
      by_cases hm : β ∈ H.tch i
      · rw [g1 hm, if_pos (by simp [Rg.wrB, htch, hm])]
      · rw [g2 hm, if_neg]
        simp only [Rg.wrB, htch, Bool.or_eq_true, List.contains_iff_mem, Bool.and_eq_true, decide_eq_true_eq, not_or, not_and, Nat.not_lt]
        exact ⟨hm, fun h1 => by rw [hlA] at h1; omega⟩
    · rw [List.getElem?_append_right (by rw [overB_length]; exact hge), overB_length, List.getElem?_drop, show (r.A i).heap.length + (β - (r.A i).heap.length) = β from by omega]
      split
      · rfl
      · rename_i hw
        simp only [Rg.wrB, htch, Bool.or_eq_true, List.contains_iff_mem, Bool.and_eq_true, decide_eq_true_eq, not_or, not_and, Nat.not_lt] at hw
        have := hw.2 (by rw [hlA]; exact hge)
        rw [hlenS i hi] at this
        rw [List.getElem?_eq_none this, List.getElem?_eq_none hge]
  · obtain ⟨o, _, hR, hS⟩ := at' i hi
    rw [htch] at ht
    exact (hS.tl β ht).1
  · obtain ⟨o, _, hR, hS⟩ := at' j hj
    rw [hbef]
    rw [hdst] at h1 h2
    rcases hS.pair i hij with h3 | ⟨h3, _⟩
    · exact h3
    · rcases h3 with h3 | h3
      · rw [h3] at h2; cases h2
      · exact absurd (h2.trans h1.symm) h3
  · obtain ⟨o, _, hR, hS⟩ := at' j hj
    have hi : i < r.N := Nat.lt_trans hij hj
    rw [hbef]
    rcases hS.pair i hij with h3 | ⟨_, h3⟩
    · exact h3
    · exfalso
      have hw2 : β ∈ H.tch j ∨ (r.len j ≤ β ∧ β < r.len (j + 1)) := by simpa [Rg.wrB, htch] using h2
      rcases hw2 with ht | ⟨h4, h5⟩
      · have := h3 β ht
        rw [← hwrB i β hi, h1] at this
        cases this
      · have hw1 : β ∈ H.tch i ∨ (r.len i ≤ β ∧ β < r.len (i + 1)) := by simpa [Rg.wrB, htch] using h1
        have hm := hlmono (i + 1) j hij (Nat.le_of_lt hj)
        rcases hw1 with ht | ⟨h6, h7⟩
        · obtain ⟨oi, _, hRi, hSi⟩ := at' i hi
          have hl : β < (r.A i).heap.length := by rw [← hvh i hi]; exact live_lt (hSi.tl β ht).1
          have hm2 := hlmono i j (Nat.le_of_lt hij) (Nat.le_of_lt hj)
          have : r.len i = (r.A i).heap.length := rfl
          omega
        · omega
  · obtain ⟨o, _, hR, hS⟩ := at' i hi
    rw [hp]
    exact hS.refS k s (by rw [hS.dst, ← hdst]; exact hd) hs
  · obtain ⟨o, _, hR, hS⟩ := at' i hi
    rw [hp]
    have hw1 : β ∈ H.tch i ∨ (r.len i ≤ β ∧ β < r.len (i + 1)) := by simpa [Rg.wrB, htch] using hw
    rcases hw1 with ht | ⟨h6, h7⟩
    · exact (hS.tl β ht).2 sb hs
    · refine hS.refN sb ?_
      refine List.mem_of_getElem? (i := β - (r.A i).heap.length) ?_
      rw [List.getElem?_drop]
      have : r.len i = (r.A i).heap.length := rfl
      rw [show (r.A i).heap.length + (β - (r.A i).heap.length) = β from by omega]
      exact hs

end
end Vs

