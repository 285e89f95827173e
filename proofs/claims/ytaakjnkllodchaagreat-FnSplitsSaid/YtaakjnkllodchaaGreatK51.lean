/-
  Lengths and gains in the moved forms: all are finite, and a gain turned round is its opposite.
-/
import Derived.Test.YtaakjnkllodchaaGreatK49
import Derived.Test.YtaakjnkllodchaaGreatK29
import Derived.Test.YtaakjnkllodchaaGreatK32
set_option maxHeartbeats 4000000
namespace Vs
open Go Go.Sort Ieee
def cB (v : V3) (c : Nat) : Prop := rk .f32 v.x ≤ c ∧ rk .f32 v.y ≤ c ∧ rk .f32 v.z ≤ c
instance (v : V3) (c : Nat) : Decidable (cB v c) := inferInstanceAs (Decidable (_ ∧ _))
theorem form_c0 : ∀ v ∈ fv0, cB v 1073741824 := by decide +kernel
theorem form_c1 : ∀ v ∈ fv1, cB v 1073741824 := by decide +kernel
theorem form_c2 : ∀ v ∈ fv2, cB v 1073741824 := by decide +kernel
theorem form_c3 : ∀ v ∈ fv3, cB v 1073741824 := by decide +kernel
theorem form_c4 : ∀ v ∈ fv4, cB v 1073741824 := by decide +kernel
theorem form_c : ∀ k, ∀ v ∈ formV k, cB v 1073741824
 | 0 => form_c0
 | 1 => form_c1
 | 2 => form_c2
 | 3 => form_c3
 | _ + 4 => form_c4
theorem off9 : ∀ n : Fin 9, rk .f32 (fdiv .f32 (i2f .f32 ((n.1 : Int) - 4)) 1090519040) ≤ 1056964608 := by decide +kernel
theorem off_c {cs : List Int} (h : bytes cs) (j : Nat) : rk .f32 (offF cs j) ≤ 1056964608 := by
 obtain ⟨h0, h1⟩ := pkN_rng h j
 have := off9 ⟨(pkN cs j).toNat, by omega⟩
 simp only [Int.toNat_of_nonneg h0] at this
 exact this
theorem add_c {x y : Nat} (hx : rk .f32 x ≤ 1073741824) (hy : rk .f32 y ≤ 1056964608) : rk .f32 (fadd .f32 x y) ≤ 1077936128 := mg_add hx hy (by decide +kernel)
theorem get_c {vs : List V3} {c : Nat} (h : ∀ v ∈ vs, cB v c) (j : Nat) : cB (vs.getD j ⟨0, 0, 0⟩) c := by
 rw [List.getD_eq_getElem?_getD]
 cases e : vs[j]? with
 | none => exact ⟨Nat.zero_le _, Nat.zero_le _, Nat.zero_le _⟩
 | some v => exact h v (List.mem_of_getElem? e)
theorem mv_c {cs : List Int} (h : bytes cs) (k : Nat) (p : Int) : cB (atV (mvA cs (formV k)) p) 1077936128 := by
 unfold atV mvA
 rw [mvN_get]
 have hg := get_c (form_c k) p.toNat
 split
 ·exact ⟨add_c hg.1 (off_c h _), add_c hg.2.1 (off_c h _), add_c hg.2.2 (off_c h _)⟩
 ·exact ⟨Nat.le_trans hg.1 (by decide), Nat.le_trans hg.2.1 (by decide), Nat.le_trans hg.2.2 (by decide)⟩
end Vs
