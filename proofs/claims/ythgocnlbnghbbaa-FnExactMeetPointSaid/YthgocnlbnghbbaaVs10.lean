/-
  Operations that make memory, store, or call: what the executor says of them holds.
-/
import Derived.Test.YthgocnlbnghbbaaVs9
namespace Vs
open Go Go.RowKit

/-! ### Contracts of functions -/
def ValR (w : World) (F : Nat → Prop) (agg : Bool) (ts : List CT) (v : Value) (ds : List D) : Prop :=
  match agg with
  | true => ∃ arr : Array Value, v = .agg arr ∧ RdCs (RdC w F) ts arr.toList ds
  | false => ∃ t d, ts = [t] ∧ ds = [d] ∧ RdC w F t v d

def PtrR (w : World) (F : Nat → Prop) (ts : List CT) (v : Value) (ds : List D) : Prop :=
  ∃ b o vs, v = .pointer (some ⟨b, o, none⟩) ∧ F b ∧ (∀ (j : Nat) u, vs[j]? = some u → w.cell? ⟨b, o + j, none⟩ = some u) ∧ RdCs (RdC w F) ts vs ds

def ArgsR (w : World) (F : Nat → Prop) : List PK → List Value → List D → Prop
  | [], [], ds => ds = []
  | .val ag ts :: ps, v :: vs, ds => ∃ d1 d2, ds = d1 ++ d2 ∧ ValR w F ag ts v d1 ∧ ArgsR w F ps vs d2
  | .ptr ts :: ps, v :: vs, ds => ∃ d1 d2, ds = d1 ++ d2 ∧ PtrR w F ts v d1 ∧ ArgsR w F ps vs d2
  | _, _, _ => False

def OwnD (w : World) (F : Nat → Prop) (t : CT) (e : TypeId) (v : Value) (d : D) : Prop :=
  ∃ n xs ls, w.ownsRow 0 e (rowSz t) v n xs ∧ d = .lst (ls.map (unflat (rowAgg t))) ∧ ls.length = n ∧ rowRd w F t xs ls

/-- The cells of a result; 'os': the own slices among them, in order. -/
def ResCs (w : World) (F : Nat → Prop) : List RK → List Value → List D → List Value → Prop
  | [], [], [], [] => True
  | .cell t :: rs, v :: vs, d :: ds, os => RdB t v d ∧ ResCs w F rs vs ds os
  | .own t e :: rs, v :: vs, d :: ds, o :: os => o = v ∧ OwnD w F t e v d ∧ ResCs w F rs vs ds os
  | _, _, _, _ => False

def PRes (w : World) (F : Nat → Prop) (agg : Bool) (rs : List RK) (v : Value) (ds : List D) (os : List Value) : Prop :=
  match agg with
  | true => ∃ arr : Array Value, v = .agg arr ∧ ResCs w F rs arr.toList ds os
  | false => rs.length = 1 ∧ ResCs w F rs [v] ds os

def ResAll (w : World) (F : Nat → Prop) : List (Bool × List RK) → List Value → List D → List Value → Prop
  | [], [], ds, os => ds = [] ∧ os = []
  | (ag, rs) :: r, v :: vs, ds, os => ∃ d1 d2 o1 o2, ds = d1 ++ d2 ∧ os = o1 ++ o2 ∧ PRes w F ag rs v d1 o1 ∧ ResAll w F r vs d2 o2
  | _, _, _, _ => False

/-- Fresh blocks that no own slice of the result holds. -/
def FreshF (base : Nat) (w : World) (os : List Value) (b : Nat) : Prop := base ≤ b ∧ b < w.heap.size ∧ ∀ u ∈ os, blkOf u ≠ some b

def ResR (base : Nat) (w : World) (rs : List (Bool × List RK)) (v : Value) (ds : List D) : Prop :=
  ∃ vs os, (if rs.length = 1 then vs = [v] else v = .tuple vs.toArray) ∧ ResAll w (FreshF base w os) rs vs ds os ∧
    (∀ u ∈ os, ∀ b, blkOf u = some b → base ≤ b) ∧
    (∀ (i j : Nat) u u', os[i]? = some u → os[j]? = some u' → i ≠ j → ∀ b, blkOf u = some b → blkOf u' ≠ some b)

structure SoundCall (P : Program) (f : FuncId) (sg : Sig) (G : List D → Option (List D)) : Prop where
  enter : ∀ args w, (callFunc f args).run P w = .ok (.enter f args) w
  calls : ∀ vs ds (w : World) rs, ArgsR w (fun b => b < w.heap.size) sg.params vs ds → G ds = some rs →
    Calls P f vs.toArray w fun e w' => ∃ v, e = .returned v ∧ Keeps (fun _ => False) w w' ∧ ResR w.heap.size w' sg.results v rs

/-! ### Moving a state along -/
section
variable {P : Program} {X M : Nat → Prop} {w0 w w' : World} {S : SS} {μ μ' : Mu} {ρ : List D} {a : Act}

theorem live_lt {h : List SB} {β : Nat} (hl : live h β) : β < h.length := by
  obtain ⟨sb, hs, _⟩ := hl
  rcases Nat.lt_or_ge β h.length with h' | h'
  · exact h'
  · rw [List.getElem?_eq_none h'] at hs; cases hs

theorem R_env (h : R X M w0 S μ ρ a w) (σ : List D) : R X M w0 { S with n := S.n + σ.length } μ (ρ ++ σ) a w := by
  have hg : Grows (Fz X S.heap μ w) (Fz X S.heap μ w) S.heap.length S.heap.length μ μ ρ (ρ ++ σ) w w := ⟨⟨fun _ h => h, fun _ _ => rfl⟩, ⟨σ, rfl⟩, Nat.le_refl _, fun _ _ => rfl⟩
  refine ⟨h.keeps, by simp [h.len], h.size, h.defers, fun i s hs => (h.slots i s hs).mono hg, fun β sb hb => ?_, h.ex, h.inj⟩
  have := h.blocks β sb hb
  cases sb with
  | dead => trivial
  | hid => exact this
  | var cs => obtain ⟨b, arr, T, h1, h2, h3, h4⟩ := this; exact ⟨b, arr, T, h1, h2, h3, h4.mono hg⟩
  | row t e x => obtain ⟨n, xs, ls, h1, h2, h3, h4, h5⟩ := this; exact ⟨n, xs, ls, h1, h2, Atom.get_append h3, h4, h5⟩

theorem BlkR.grow {Mine : Nat → Prop} {F F' : Nat → Prop} {hl hl' : Nat} {ρ ρ' : List D} {sb : SB} {v : Value} (hg : Grows F F' hl hl' μ μ' ρ ρ' w w') (hsz : w.heap.size ≤ w'.heap.size) (hb : ∀ b, blkOf v = some b → w'.heap[b]? = w.heap[b]?)
    (h : BlkR Mine w F hl μ ρ sb v) : BlkR Mine w' F' hl' μ' ρ' sb v := by
  cases sb with
  | dead => trivial
  | hid => exact fun b hb' => Nat.lt_of_lt_of_le (h b hb') hsz
  | var cs =>
    obtain ⟨b, arr, T, h1, h2, h3, h4⟩ := h
    refine ⟨b, arr, T, h1, h2, ?_, h4.mono hg⟩
    rw [hb b (by rw [h1]; rfl)]
    exact h3
  | row t e x =>
    obtain ⟨n, xs, ls, h1, h2, h3, h4, h5⟩ := h
    refine ⟨n, xs, ls, ⟨h1.1, ?_⟩, h2, hg.get h3, h4, h5.mono hg.stays⟩
    rcases h1.2 with hn | ⟨g, cap, cur, e1, e2, e3, e4⟩
    · exact .inl hn
    · refine .inr ⟨g, cap, cur, e1, e2, ?_, e4⟩
      rw [hb g (by rw [e1]; rfl)]
      exact e3

/-- Own blocks lie in the heap. -/
theorem R.own_lt (h : R X M w0 S μ ρ a w) {β : Nat} (hl : live S.heap β) {b : Nat} (hb : blkOf (μ β) = some b) : b < w.heap.size := by
  obtain ⟨sb, hs, hd⟩ := hl
  have := h.blocks β sb hs
  cases sb with
  | dead => exact absurd rfl hd
  | hid => exact this b hb
  | var cs =>
    obtain ⟨b', arr, T, h1, _, h3, _⟩ := this
    rw [h1] at hb
    simp only [blkOf, Option.some.injEq] at hb
    subst hb
    exact (Array.getElem?_eq_some_iff.1 h3).1
  | row t e x =>
    obtain ⟨n, xs, ls, h1, _⟩ := this
    rcases h1.2 with ⟨hn, _⟩ | ⟨g, cap, cur, e1, _, e3, _⟩
    · rw [hn] at hb; cases hb
    · rw [e1] at hb
      simp only [blkOf, Option.some.injEq] at hb
      subst hb
      exact (Array.getElem?_eq_some_iff.1 e3).1

/-- New memory: new own blocks beside the old ones. -/
theorem R_extend (h : R X M w0 S μ ρ a w) (hk : Keeps (fun _ => False) w w') (bs : List SB) (hμ : ∀ β, β < S.heap.length → μ' β = μ β)
    (hfr : ∀ j, j < bs.length → ∀ b, blkOf (μ' (S.heap.length + j)) = some b → w.heap.size ≤ b)
    (hdis : ∀ i j, i < bs.length → j < bs.length → i ≠ j → ∀ b, blkOf (μ' (S.heap.length + i)) = some b → blkOf (μ' (S.heap.length + j)) ≠ some b)
    (hnew : ∀ (j : Nat) sb, bs[j]? = some sb → BlkR (fun b => w0.heap.size ≤ b ∨ M b) w' (Fz X (S.heap ++ bs) μ' w') (S.heap.length + bs.length) μ' ρ sb (μ' (S.heap.length + j))) :
    R X M w0 { S with heap := S.heap ++ bs } μ' ρ a w' := by
  have hold : ∀ {β}, live (S.heap ++ bs) β → β < S.heap.length → live S.heap β := by
    intro β ⟨sb, hs, hd⟩ hlt
    rw [List.getElem?_append_left hlt] at hs
    exact ⟨sb, hs, hd⟩
  have hpart : ∀ {β}, live (S.heap ++ bs) β → ¬ β < S.heap.length → ∃ j, j < bs.length ∧ β = S.heap.length + j := by
    intro β hl hge
    have := live_lt hl
    simp only [List.length_append] at this
    exact ⟨β - S.heap.length, by omega, by omega⟩
  have hg : Grows (Fz X S.heap μ w) (Fz X (S.heap ++ bs) μ' w') S.heap.length (S.heap ++ bs).length μ μ' ρ ρ w w' := by
    refine ⟨⟨fun b hb => ⟨⟨Nat.lt_of_lt_of_le hb.1.1 hk.size, hb.1.2⟩, fun β hl => ?_⟩, fun b hb => hk.block b hb.1.1 (fun h => h)⟩, ⟨[], by simp⟩, by simp, hμ⟩
    by_cases hlt : β < S.heap.length
    · rw [hμ β hlt]; exact hb.2 β (hold hl hlt)
    · obtain ⟨j, hj, rfl⟩ := hpart hl hlt
      intro he
      have := hfr j hj b he
      have := hb.1.1
      omega
  refine ⟨?_, h.len, h.size, h.defers, fun i s hs => (h.slots i s hs).mono hg, fun β sb hb => ?_, fun b hb => Nat.lt_of_lt_of_le (h.ex b hb) hk.size, ?_⟩
  · exact h.keeps.trans ⟨hk.os, hk.tape, hk.output, hk.size, fun k hk' _ => hk.block k hk' (fun h => h)⟩
  · by_cases hlt : β < S.heap.length
    · rw [List.getElem?_append_left hlt] at hb
      rw [hμ β hlt]
      by_cases hd : sb = .dead
      · subst hd; trivial
      · exact BlkR.grow hg hk.size (fun b hb' => hk.block b (h.own_lt ⟨sb, hb, hd⟩ hb') (fun h => h)) (h.blocks β sb hb)
    · rw [List.getElem?_append_right (by omega)] at hb
      have := hnew _ sb hb
      rw [show S.heap.length + (β - S.heap.length) = β from by omega] at this
      simpa using this
  · intro β γ hβ hγ hne b hb
    by_cases h1 : β < S.heap.length
    · rw [hμ β h1] at hb
      by_cases h2 : γ < S.heap.length
      · rw [hμ γ h2]; exact h.inj β γ (hold hβ h1) (hold hγ h2) hne b hb
      · obtain ⟨j, hj, rfl⟩ := hpart hγ h2
        intro he
        have := hfr j hj b he
        have := h.own_lt (hold hβ h1) hb
        omega
    · obtain ⟨i, hi, rfl⟩ := hpart hβ h1
      by_cases h2 : γ < S.heap.length
      · rw [hμ γ h2]
        intro he
        have := hfr i hi b hb
        have := h.own_lt (hold hγ h2) he
        omega
      · obtain ⟨j, hj, rfl⟩ := hpart hγ h2
        exact hdis i j hi hj (by omega) b hb

theorem R_quiet (h : R X M w0 S μ ρ a w) (q : Quiet w w') : R X M w0 S μ ρ a w' := by
  have hF : Fz X S.heap μ w' = Fz X S.heap μ w := by unfold Fz; rw [q.heap]
  have hg : Grows (Fz X S.heap μ w) (Fz X S.heap μ w') S.heap.length S.heap.length μ μ ρ ρ w w' := by
    rw [hF]
    exact ⟨⟨fun _ h => h, fun b _ => by rw [q.heap]⟩, ⟨[], by simp⟩, Nat.le_refl _, fun _ _ => rfl⟩
  refine ⟨⟨q.os.trans h.keeps.os, q.tape.trans h.keeps.tape, q.output.trans h.keeps.output, by rw [q.heap]; exact h.keeps.size, fun k h1 h2 => by rw [q.heap]; exact h.keeps.block k h1 h2⟩,
    h.len, h.size, h.defers, fun i s hs => (h.slots i s hs).mono hg, fun β sb hb => (h.blocks β sb hb).grow hg (by rw [q.heap]; exact Nat.le_refl _) (fun b _ => by rw [q.heap]), fun b hb => by rw [q.heap]; exact h.ex b hb, h.inj⟩

theorem put_ok {dst : Option Nat} {v : SV} {slots : List SV} (h : put S dst v = .ok slots) : slots.length = S.slots.length ∧
    ∀ i s, slots[i]? = some s → (S.slots[i]? = some s ∧ dst ≠ some i) ∨ (dst = some i ∧ s = v ∧ i < S.slots.length) := by
  unfold put at h
  split at h
  · simp only [Except.ok.injEq] at h; subst h; exact ⟨rfl, fun i s hs => .inl ⟨hs, by simp⟩⟩
  · rename_i d
    split at h
    · rename_i hd
      simp only [Except.ok.injEq] at h; subst h
      refine ⟨by simp, fun i s hs => ?_⟩
      by_cases hi : d = i
      · subst hi
        rw [List.getElem?_set_self hd] at hs
        simp only [Option.some.injEq] at hs
        exact .inr ⟨rfl, hs.symm, hd⟩
      · rw [List.getElem?_set_ne hi] at hs
        exact .inl ⟨hs, by simp [hi]⟩
    · cases h

theorem tmps_put {dst : Option Nat} {u : Value} (i : Nat) : (a.put dst u).tmps.getD i Go.undef = if dst = some i ∧ i < a.tmps.size then u else a.tmps.getD i Go.undef := by
  unfold Act.put
  cases dst with
  | none => simp
  | some d =>
    simp only [Option.some.injEq]
    by_cases h : d = i
    · subst h
      by_cases hd : d < a.tmps.size
      · simp [hd]
      · simp [hd]
    · simp [h]

theorem R_put {dst : Option Nat} {v : SV} {slots : List SV} {u : Value} (h : R X M w0 S μ ρ a w) (hp : put S dst v = .ok slots) (hv : SVR w (Fz X S.heap μ w) S.heap.length μ ρ v u) :
    R X M w0 { S with slots } μ ρ (a.put dst u) w := by
  obtain ⟨hl, hs⟩ := put_ok hp
  refine ⟨h.keeps, h.len, ?_, ?_, fun i s hi => ?_, h.blocks, h.ex, h.inj⟩
  · have : (a.put dst u).tmps.size = a.tmps.size := by unfold Act.put; cases dst <;> simp
    rw [this, h.size, hl]
  · have : (a.put dst u).defers = a.defers := by unfold Act.put; cases dst <;> rfl
    rw [this, h.defers]
  · rw [tmps_put]
    rcases hs i s hi with ⟨h1, h2⟩ | ⟨rfl, rfl, h3⟩
    · rw [if_neg (fun e => h2 e.1)]
      exact h.slots i s h1
    · rw [if_pos ⟨rfl, by rw [h.size]; exact h3⟩]
      exact hv

end
end Vs
