/-
  What a text answers, as a function: with as much fuel as it takes.
-/
import Derived.Test.YtfpmhmngebnphaaNs22
namespace Vs
open Go

theorem iter_mono {b b' : List D → Option (Nat × List D)} (hb : ∀ ds r, b ds = some r → b' ds = some r) : ∀ {f f' : Nat} {ds : List D} {r : Nat × List D}, iter b f ds = some r → f ≤ f' → iter b' f' ds = some r
  | 0, _, _, _, h, _ => by simp [iter] at h
  | f + 1, 0, _, _, _, hle => by omega
  | f + 1, f' + 1, ds, r, h, hle => by
    unfold iter at h ⊢
    split at h
    · rename_i ds' he
      rw [hb _ _ he]
      exact iter_mono hb h (by omega)
    · rename_i l ds' he
      rw [hb _ _ he]
      exact h
    · cases h

theorem run_mono {G : Told} {f f' : Nat} (hle : f ≤ f') : ∀ {t : T} {ρ : List D} {r : Nat × List D}, run G f t ρ = some r → run G f' t ρ = some r
  | .op g p xs k, ρ, r, h => by
    unfold run at h ⊢
    split at h
    · rename_i hg
      rw [if_pos hg]
      split at h
      · rename_i d hd
        exact run_mono hle h
      · cases h
    · rename_i hg
      rw [if_neg hg]
      exact run_mono hle h
  | .call g c xs m k, ρ, r, h => by
    unfold run at h ⊢
    split at h
    · rename_i hg
      rw [if_pos hg]
      split at h
      · rename_i ds hd
        split at h
        · rename_i hl
          rw [if_pos hl]
          exact run_mono hle h
        · cases h
      · cases h
    · rename_i hg
      rw [if_neg hg]
      exact run_mono hle h
  | .ite c t e, ρ, r, h => by
    unfold run at h ⊢
    split at h
    · exact run_mono hle h
    · exact run_mono hle h
    · cases h
  | .join m t k, ρ, r, h => by
    unfold run at h ⊢
    split at h
    · rename_i ds ht
      rw [run_mono hle ht]
      dsimp only
      split at h
      · rename_i hl
        rw [if_pos hl]
        exact run_mono hle h
      · cases h
    · rename_i l ds ht
      rw [run_mono hle ht]
      exact h
    · cases h
  | .loop xs b, ρ, r, h => by
    unfold run at h ⊢
    refine iter_mono (fun ds r hd => ?_) h hle
    split at hd
    · rename_i hl
      rw [if_pos hl]
      exact run_mono hle hd
    · cases hd
  | .out l xs, ρ, r, h => h

theorem run_det {G : Told} {f f' : Nat} {t : T} {ρ : List D} {r r' : Nat × List D} (h : run G f t ρ = some r) (h' : run G f' t ρ = some r') : r = r' := by
  rcases Nat.le_total f f' with hle | hle
  · have := run_mono hle h
    rw [h'] at this
    exact (Option.some.inj this).symm
  · have := run_mono hle h'
    rw [h] at this
    exact Option.some.inj this

/-- What a text answers. -/
def Ans (G : Told) (t : T) (ds rs : List D) : Prop := ∃ fuel, run G fuel t ds = some (0, rs)
open Classical in
noncomputable def Fof (G : Told) (t : T) (ds : List D) : Option (List D) := if h : ∃ rs, Ans G t ds rs then some (Classical.choose h) else none

theorem Fof_ok {G : Told} {t : T} {ds rs : List D} : Fof G t ds = some rs ↔ Ans G t ds rs := by
  unfold Fof
  constructor
  · intro h
    split at h
    · rename_i hx
      simp only [Option.some.injEq] at h
      rw [← h]
      exact Classical.choose_spec hx
    · cases h
  · intro h
    have hx : ∃ rs, Ans G t ds rs := ⟨rs, h⟩
    rw [dif_pos hx]
    obtain ⟨f, h1⟩ := Classical.choose_spec hx
    obtain ⟨f', h2⟩ := h
    have := run_det h1 h2
    simp only [Prod.mk.injEq, true_and] at this
    rw [this]

end Vs
