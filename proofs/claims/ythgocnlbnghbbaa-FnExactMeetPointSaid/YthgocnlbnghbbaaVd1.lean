/-
  Regions whose order is open: any order that keeps to the edges leaves what the order of the text leaves.
-/
import Derived.Test.YthgocnlbnghbbaaVs14
import Derived.Orders
namespace Vs
open Go Go.RowKit

/-! ### The last writer -/
def lastLv (f : Nat → Bool) : Nat → Nat
  | 0 => 0
  | i + 1 => if f i then i + 1 else lastLv f i

theorem lastLv_le (f : Nat → Bool) : ∀ N, lastLv f N ≤ N
  | 0 => Nat.le_refl _
  | i + 1 => by
    unfold lastLv
    split
    · exact Nat.le_refl _
    · exact Nat.le_succ_of_le (lastLv_le f i)

theorem lastLv_congr {f g : Nat → Bool} : ∀ {N : Nat}, (∀ j, j < N → f j = g j) → lastLv f N = lastLv g N
  | 0, _ => rfl
  | i + 1, h => by
    unfold lastLv
    rw [h i (Nat.lt_succ_self i), lastLv_congr fun j hj => h j (Nat.lt_succ_of_lt hj)]

theorem lastLv_cut {f : Nat → Bool} {i : Nat} : ∀ {N : Nat}, i ≤ N → (∀ j, i ≤ j → j < N → f j = false) → lastLv f N = lastLv f i
  | 0, h, _ => by rw [Nat.le_zero.1 h]
  | N + 1, h, hf => by
    rcases Nat.lt_or_eq_of_le h with hlt | rfl
    · have hle : i ≤ N := Nat.le_of_lt_succ hlt
      rw [lastLv, hf N hle (Nat.lt_succ_self N)]
      simp only [Bool.false_eq_true, if_false]
      exact lastLv_cut hle fun j h1 h2 => hf j h1 (Nat.lt_succ_of_lt h2)
    · rfl

theorem lastLv_at {f : Nat → Bool} {i N : Nat} (hi : i < N) (h : f i = true) (hf : ∀ j, i < j → j < N → f j = false) : lastLv f N = i + 1 := by
  rw [lastLv_cut (i := i + 1) hi (fun j h1 h2 => hf j h1 h2), lastLv, h]
  rfl

/-- Where no one writes, the value of the last writer is the value at the end. -/
theorem lastLv_val {α : Type} {f : Nat → Bool} {v : Nat → α} : ∀ {N : Nat}, (∀ j, j < N → f j = false → v (j + 1) = v j) → v (lastLv f N) = v N
  | 0, _ => rfl
  | N + 1, h => by
    unfold lastLv
    cases hf : f N with
    | true => rfl
    | false =>
      simp only [Bool.false_eq_true, if_false]
      rw [h N (Nat.lt_succ_self N) hf]
      exact lastLv_val fun j hj => h j (Nat.lt_succ_of_lt hj)

theorem lastLv_spec {f : Nat → Bool} : ∀ {N : Nat}, lastLv f N = 0 ∨ ∃ j, j < N ∧ lastLv f N = j + 1 ∧ f j = true
  | 0 => .inl rfl
  | N + 1 => by
    unfold lastLv
    cases hf : f N with
    | true => exact .inr ⟨N, Nat.lt_succ_self N, rfl, hf⟩
    | false =>
      simp only [Bool.false_eq_true, if_false]
      rcases lastLv_spec (f := f) (N := N) with h | ⟨j, h1, h2, h3⟩
      · exact .inl h
      · exact .inr ⟨j, Nat.lt_succ_of_lt h1, h2, h3⟩

/-! ### Which own blocks a value names -/
def refs0 (p : Nat → Bool) : CV0 → Bool
  | .own β => p β
  | .vptr β _ => p β
  | .eptr β _ _ _ => p β
  | _ => true
def refsCV (p : Nat → Bool) : CV → Bool
  | .s c => refs0 p c
  | .fn _ caps => caps.all (refs0 p)
def refsSV (p : Nat → Bool) : SV → Bool
  | .c x => refsCV p x
  | .agg cs => cs.all (refsCV p)
  | .tup vs => vs.all fun x => x.2.all (refsCV p)
  | .gd _ _ s => refsSV p s
def refsSB (p : Nat → Bool) : SB → Bool
  | .var cs => cs.all (refsCV p)
  | _ => true

section
variable {w : World} {F : Nat → Prop} {hl : Nat} {μ μ' : Mu} {ρ : List D} {p : Nat → Bool}

theorem refs0_ok (hp : ∀ β, p β = true → β < hl → μ' β = μ β) {c : CV0} {v : Value} (hr : refs0 p c = true) (h : CVR0 w F hl μ ρ c v) : CVR0 w F hl μ' ρ c v := by
  cases c with
  | undef => trivial
  | nils => exact h
  | dat t x => exact h
  | own β => obtain ⟨h1, h2⟩ := h; refine ⟨h1, ?_⟩; rw [hp β hr h1]; exact h2
  | vptr β off => obtain ⟨h1, h2⟩ := h; refine ⟨h1, ?_⟩; rw [hp β hr h1]; exact h2
  | eptr β i sz off => obtain ⟨h1, h2⟩ := h; refine ⟨h1, ?_⟩; rw [hp β hr h1]; exact h2
  | fcel cs off => exact h

theorem refsCV_ok (hp : ∀ β, p β = true → β < hl → μ' β = μ β) {c : CV} {v : Value} (hr : refsCV p c = true) (h : CVR w F hl μ ρ c v) : CVR w F hl μ' ρ c v := by
  cases c with
  | s c => exact refs0_ok hp hr h
  | fn f caps =>
    obtain ⟨cs, h1, h2, h3⟩ := h
    exact ⟨cs, h1, h2, fun j c u hc hu => refs0_ok hp (List.all_eq_true.1 hr c (List.mem_of_getElem? hc)) (h3 j c u hc hu)⟩

theorem refsCVs_ok (hp : ∀ β, p β = true → β < hl → μ' β = μ β) : ∀ {cs : List CV} {vs : List Value}, cs.all (refsCV p) = true → CVRs w F hl μ ρ cs vs → CVRs w F hl μ' ρ cs vs
  | [], [], _, _ => trivial
  | _ :: _, _ :: _, hr, ⟨a, b⟩ => by
    simp only [List.all_cons, Bool.and_eq_true] at hr
    exact ⟨refsCV_ok hp hr.1 a, refsCVs_ok hp hr.2 b⟩

theorem refsTV_ok (hp : ∀ β, p β = true → β < hl → μ' β = μ β) : ∀ {cs : List (Bool × List CV)} {vs : List Value}, (cs.all fun x => x.2.all (refsCV p)) = true → TVR w F hl μ ρ cs vs → TVR w F hl μ' ρ cs vs
  | [], [], _, _ => trivial
  | (ag, cs) :: _, _ :: _, hr, ⟨a, b⟩ => by
    simp only [List.all_cons, Bool.and_eq_true] at hr
    refine ⟨?_, refsTV_ok hp hr.2 b⟩
    cases ag with
    | true => obtain ⟨arr, e, hc⟩ := a; exact ⟨arr, e, refsCVs_ok hp hr.1 hc⟩
    | false =>
      obtain ⟨c, rfl, hc⟩ := a
      have := hr.1
      simp only [List.all_cons, List.all_nil, Bool.and_true] at this
      exact ⟨c, rfl, refsCV_ok hp this hc⟩

theorem refsSV_ok (hp : ∀ β, p β = true → β < hl → μ' β = μ β) : ∀ {s : SV} {v : Value}, refsSV p s = true → SVR w F hl μ ρ s v → SVR w F hl μ' ρ s v
  | .c _, _, hr, h => refsCV_ok hp hr h
  | .agg _, _, hr, ⟨arr, e, hc⟩ => ⟨arr, e, refsCVs_ok hp hr hc⟩
  | .tup _, _, hr, ⟨arr, e, hc⟩ => ⟨arr, e, refsTV_ok hp hr hc⟩
  | .gd _ _ _, _, hr, ⟨h0, h1, h2⟩ => ⟨h0, fun hg => refsSV_ok hp hr (h1 hg), h2⟩

theorem refsSB_ok {Mine : Nat → Prop} (hp : ∀ β, p β = true → β < hl → μ' β = μ β) {sb : SB} {v : Value} (hr : refsSB p sb = true) (h : BlkR Mine w F hl μ ρ sb v) : BlkR Mine w F hl μ' ρ sb v := by
  cases sb with
  | var cs => obtain ⟨b, arr, T, h1, h2, h3, h4⟩ := h; exact ⟨b, arr, T, h1, h2, h3, refsCVs_ok hp hr h4⟩
  | _ => exact h
end

/-! ### What an operation leaves of the heap -/
theorem sop_heap {E : Env} {ops : List Oper} {S S' : SS} {o : Oper} {g : Guard} {eff : Eff} (h : sop E ops S o = .ok (S', g, eff)) :
    S.heap.length ≤ S'.heap.length ∧ ∀ β, β < S.heap.length → touchOf S o ≠ some β → S'.heap[β]? = S.heap[β]? := by
  unfold sop at h
  obtain ⟨g', hg0, h1⟩ := bind_ok h
  clear h
  split at h1
  · dsimp only at h1
    split at h1
    · cases h1
    · obtain ⟨slots, hp, h2⟩ := bind_ok h1
      simp only [Except.ok.injEq, Prod.mk.injEq] at h2
      obtain ⟨rfl, _, _⟩ := h2
      exact ⟨Nat.le_refl _, fun _ _ _ => rfl⟩
  · split at h1
    · split at h1
      · obtain ⟨ss, h2, h3⟩ := bind_ok h1
        obtain ⟨xs, h4, h5⟩ := bind_ok h3
        dsimp only at h5
        obtain ⟨v, h6, h7⟩ := bind_ok h5
        split at h7
        · cases h7
        · obtain ⟨slots, hp, h8⟩ := bind_ok h7
          simp only [Except.ok.injEq, Prod.mk.injEq] at h8
          obtain ⟨rfl, _, _⟩ := h8
          exact ⟨by simp, fun β hb _ => by rw [List.getElem?_append_left hb]⟩
      · cases h1
    · split at h1
      · cases h1
      · obtain ⟨s, h2, h3⟩ := bind_ok h1
        split at h3
        · split at h3
          · obtain ⟨slots, hp, h4⟩ := bind_ok h3
            simp only [Except.ok.injEq, Prod.mk.injEq] at h4
            obtain ⟨rfl, _, _⟩ := h4
            exact ⟨by simp, fun β hb _ => by rw [List.getElem?_append_left hb]⟩
          · cases h3
        · cases h3
    · split at h1
      · cases h1
      · obtain ⟨i, h2, h3⟩ := bind_ok h1
        obtain ⟨z, h4, h5⟩ := bind_ok h3
        obtain ⟨cs, h6, h7⟩ := bind_ok h5
        obtain ⟨slots, hp, h8⟩ := bind_ok h7
        simp only [Except.ok.injEq, Prod.mk.injEq] at h8
        obtain ⟨rfl, _, _⟩ := h8
        exact ⟨by simp, fun β hb _ => by rw [List.getElem?_append_left hb]⟩
    · rename_i t p x ho
      split at h1
      · cases h1
      · obtain ⟨pa, h2, h3⟩ := bind_ok h1
        obtain ⟨s, h4, h5⟩ := bind_ok h3
        obtain ⟨sz, h6, h7⟩ := bind_ok h5
        split at h7
        · rename_i ag vs β off hvs
          split at h7
          · split at h7
            · obtain ⟨slots, hp, h8⟩ := bind_ok h7
              simp only [Except.ok.injEq, Prod.mk.injEq] at h8
              obtain ⟨rfl, _, _⟩ := h8
              refine ⟨by simp, fun γ hγ hne => ?_⟩
              have : β ≠ γ := fun e => hne (by simp [touchOf, ho, h2, e])
              simp [List.getElem?_set_ne this]
            · cases h7
          · cases h7
        · cases h7
    · cases h1

end Vs
