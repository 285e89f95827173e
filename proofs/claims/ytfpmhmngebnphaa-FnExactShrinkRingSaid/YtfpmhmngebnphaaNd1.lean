/-
  Regions whose order is open: any order that keeps to the edges leaves what the order of the text leaves.
-/
import Derived.Test.YtfpmhmngebnphaaNs14
import Derived.Orders
namespace Vs
open Go Go.RowKit

/-! ### The last writer -/
def lastLv (f : Nat → Bool) : Nat → Nat
  | 0 => 0
  | i + 1 => if f i then i + 1 else lastLv f i

theorem lastLv_le (f : Nat → Bool) : ∀ N, lastLv f N ≤ N
  | 0 => Nat.le_refl _
  | i + 1 => by
    unfold lastLv
    split
    · exact Nat.le_refl _
    · exact Nat.le_succ_of_le (lastLv_le f i)

theorem lastLv_congr {f g : Nat → Bool} : ∀ {N : Nat}, (∀ j, j < N → f j = g j) → lastLv f N = lastLv g N
  | 0, _ => rfl
  | i + 1, h => by
    unfold lastLv
    rw [h i (Nat.lt_succ_self i), lastLv_congr fun j hj => h j (Nat.lt_succ_of_lt hj)]

theorem lastLv_cut {f : Nat → Bool} {i : Nat} : ∀ {N : Nat}, i ≤ N → (∀ j, i ≤ j → j < N → f j = false) → lastLv f N = lastLv f i
  | 0, h, _ => by rw [Nat.le_zero.1 h]
  | N + 1, h, hf => by
    rcases Nat.lt_or_eq_of_le h with hlt | rfl
    · have hle : i ≤ N := Nat.le_of_lt_succ hlt
      rw [lastLv, hf N hle (Nat.lt_succ_self N)]
      simp only [Bool.false_eq_true, if_false]
      exact lastLv_cut hle fun j h1 h2 => hf j h1 (Nat.lt_succ_of_lt h2)
    · rfl

theorem lastLv_at {f : Nat → Bool} {i N : Nat} (hi : i < N) (h : f i = true) (hf : ∀ j, i < j → j < N → f j = false) : lastLv f N = i + 1 := by
  rw [lastLv_cut (i := i + 1) hi (fun j h1 h2 => hf j h1 h2), lastLv, h]
  rfl

/-- Where no one writes, the value of the last writer is the value at the end. -/
theorem lastLv_val {α : Type} {f : Nat → Bool} {v : Nat → α} : ∀ {N : Nat}, (∀ j, j < N → f j = false → v (j + 1) = v j) → v (lastLv f N) = v N
  | 0, _ => rfl
  | N + 1, h => by
    unfold lastLv
    cases hf : f N with
    | true => rfl
    | false =>
      simp only [Bool.false_eq_true, if_false]
      rw [h N (Nat.lt_succ_self N) hf]
      exact lastLv_val fun j hj => h j (Nat.lt_succ_of_lt hj)

theorem lastLv_spec {f : Nat → Bool} : ∀ {N : Nat}, lastLv f N = 0 ∨ ∃ j, j < N ∧ lastLv f N = j + 1 ∧ f j = true
  | 0 => .inl rfl
  | N + 1 => by
    unfold lastLv
    cases hf : f N with
    | true => exact .inr ⟨N, Nat.lt_succ_self N, rfl, hf⟩
    | false =>
      simp only [Bool.false_eq_true, if_false]
      rcases lastLv_spec (f := f) (N := N) with h | ⟨j, h1, h2, h3⟩
      · exact .inl h
      · exact .inr ⟨j, Nat.lt_succ_of_lt h1, h2, h3⟩

/-! ### Which own blocks a value names -/
def refs0 (p : Nat → Bool) : CV0 → Bool
  | .own β => p β
  | .vptr β _ => p β
  | .eptr β _ _ _ => p β
  | .rref β _ _ => p β
  | .fcel cs _ => cs.all fun c => match c with | .o β => p β | .d _ _ => true
  | _ => true
def refsCV (p : Nat → Bool) : CV → Bool
  | .s c => refs0 p c
  | .fn _ caps => caps.all (refs0 p)
def refsSV (p : Nat → Bool) : SV → Bool
  | .c x => refsCV p x
  | .agg cs => cs.all (refsCV p)
  | .tup vs => vs.all fun x => x.2.all (refsCV p)
  | .gd _ _ s => refsSV p s
def refsSB (p : Nat → Bool) : SB → Bool
  | .var cs => cs.all (refsCV p)
  | _ => true

section
variable {w : World} {F : Nat → Prop} {hl : Nat} {μ μ' : Mu} {ρ : List D} {p : Nat → Bool}

/-- The other map names the same things; more may have happened to them. -/
def MuUp (p : Nat → Bool) (hl : Nat) (μ μ' : Mu) : Prop := ∀ β, p β = true → β < hl → (μ' β).v = (μ β).v ∧ ∃ ext, (μ' β).hist = (μ β).hist ++ ext

theorem refs0_ok (hp : MuUp p hl μ μ') {c : CV0} {v : Value} (hr : refs0 p c = true) (h : CVR0 w F hl μ ρ c v) : CVR0 w F hl μ' ρ c v := by
  cases c with
  | undef => trivial
  | nils => exact h
  | dat t x => exact h
  | own β => obtain ⟨h1, h2⟩ := h; refine ⟨h1, ?_⟩; rw [(hp β hr h1).1]; exact h2
  | vptr β off => obtain ⟨h1, h2⟩ := h; refine ⟨h1, ?_⟩; rw [(hp β hr h1).1]; exact h2
  | eptr β i sz off => obtain ⟨h1, h2⟩ := h; refine ⟨h1, ?_⟩; rw [(hp β hr h1).1]; exact h2
  | rref β ver i =>
    obtain ⟨h1, l, n, h2, h3⟩ := h
    obtain ⟨_, ext, he⟩ := hp β hr h1
    refine ⟨h1, l, n, ?_, h3⟩
    rw [he, List.getElem?_append_left (List.getElem?_eq_some_iff.1 h2).1]; exact h2
  | fcel cs off =>
    obtain ⟨b, o, h1, h2, h3⟩ := h
    refine ⟨b, o, h1, h2, fun j c hj => ?_⟩
    obtain ⟨u, a1, a2⟩ := h3 j c hj
    refine ⟨u, a1, ?_⟩
    have := List.all_eq_true.1 hr c (List.mem_of_getElem? hj)
    cases c with
    | d t x => exact a2
    | o β => obtain ⟨g1, g2⟩ := a2; refine ⟨g1, ?_⟩; rw [(hp β this g1).1]; exact g2

theorem refsCV_ok (hp : MuUp p hl μ μ') {c : CV} {v : Value} (hr : refsCV p c = true) (h : CVR w F hl μ ρ c v) : CVR w F hl μ' ρ c v := by
  cases c with
  | s c => exact refs0_ok hp hr h
  | fn f caps =>
    obtain ⟨cs, h1, h2, h3⟩ := h
    exact ⟨cs, h1, h2, fun j c u hc hu => refs0_ok hp (List.all_eq_true.1 hr c (List.mem_of_getElem? hc)) (h3 j c u hc hu)⟩

theorem refsCVs_ok (hp : MuUp p hl μ μ') : ∀ {cs : List CV} {vs : List Value}, cs.all (refsCV p) = true → CVRs w F hl μ ρ cs vs → CVRs w F hl μ' ρ cs vs
  | [], [], _, _ => trivial
  | _ :: _, _ :: _, hr, ⟨a, b⟩ => by
    simp only [List.all_cons, Bool.and_eq_true] at hr
    exact ⟨refsCV_ok hp hr.1 a, refsCVs_ok hp hr.2 b⟩

theorem refsTV_ok (hp : MuUp p hl μ μ') : ∀ {cs : List (Bool × List CV)} {vs : List Value}, (cs.all fun x => x.2.all (refsCV p)) = true → TVR w F hl μ ρ cs vs → TVR w F hl μ' ρ cs vs
  | [], [], _, _ => trivial
  | (ag, cs) :: _, _ :: _, hr, ⟨a, b⟩ => by
    simp only [List.all_cons, Bool.and_eq_true] at hr
    refine ⟨?_, refsTV_ok hp hr.2 b⟩
    cases ag with
    | true => obtain ⟨arr, e, hc⟩ := a; exact ⟨arr, e, refsCVs_ok hp hr.1 hc⟩
    | false =>
      obtain ⟨c, rfl, hc⟩ := a
      have := hr.1
      simp only [List.all_cons, List.all_nil, Bool.and_true] at this
      exact ⟨c, rfl, refsCV_ok hp this hc⟩

theorem refsSV_ok (hp : MuUp p hl μ μ') : ∀ {s : SV} {v : Value}, refsSV p s = true → SVR w F hl μ ρ s v → SVR w F hl μ' ρ s v
  | .c _, _, hr, h => refsCV_ok hp hr h
  | .agg _, _, hr, ⟨arr, e, hc⟩ => ⟨arr, e, refsCVs_ok hp hr hc⟩
  | .tup _, _, hr, ⟨arr, e, hc⟩ => ⟨arr, e, refsTV_ok hp hr hc⟩
  | .gd _ _ _, _, hr, ⟨h0, h1, h2⟩ => ⟨h0, fun hg => refsSV_ok hp hr (h1 hg), h2⟩

theorem refsSB_ok {Mine : Nat → Prop} (hp : MuUp p hl μ μ') {sb : SB} {v : MV} (hr : refsSB p sb = true) (h : BlkR Mine w F hl μ ρ sb v) : BlkR Mine w F hl μ' ρ sb v := by
  cases sb with
  | var cs => obtain ⟨h0, b, arr, T, h1, h2, h3, h4⟩ := h; exact ⟨h0, b, arr, T, h1, h2, h3, refsCVs_ok hp hr h4⟩
  | _ => exact h
end

end Vs
