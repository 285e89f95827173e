/-
  The moved forms: their places lie on a grid; what is thick; places that are dropped.
-/
import Derived.Test.YtaakjnkllodchaaGreatK51
import Derived.Test.YtaakjnkllodchaaGreatK9
import Derived.Test.YtaakjnkllodchaaGreatK46
import Derived.Test.YtaakjnkllodchaaGreatKq3
import Derived.Test.YtaakjnkllodchaaGreatK45
import Derived.Test.YtaakjnkllodchaaGreatK14
import Derived.Test.YtaakjnkllodchaaGreatFe1
set_option maxHeartbeats 4000000
namespace Vs
open Go Go.Sort Ieee
instance (t : Nat) (v : V3) : Decidable (vG t v) := inferInstanceAs (Decidable ((_ ∣ _) ∧ (_ ∣ _) ∧ (_ ∣ _)))
instance (t x : Nat) : Decidable (gr .f32 t x) := inferInstanceAs (Decidable (_ ∣ _))
theorem form_g0 : ∀ v ∈ fv0, vG 126 v := by decide +kernel
theorem form_g1 : ∀ v ∈ fv1, vG 126 v := by decide +kernel
theorem form_g2 : ∀ v ∈ fv2, vG 126 v := by decide +kernel
theorem form_g3 : ∀ v ∈ fv3, vG 126 v := by decide +kernel
theorem form_g4 : ∀ v ∈ fv4, vG 126 v := by decide +kernel
theorem form_g : ∀ k, ∀ v ∈ formV k, vG 126 v
 | 0 => form_g0
 | 1 => form_g1
 | 2 => form_g2
 | 3 => form_g3
 | _ + 4 => form_g4
theorem off9g : ∀ n : Fin 9, gr .f32 126 (fdiv .f32 (i2f .f32 ((n.1 : Int) - 4)) 1090519040) := by decide +kernel
theorem off_g {cs : List Int} (h : bytes cs) (j : Nat) : gr .f32 126 (offF cs j) := by
 obtain ⟨h0, h1⟩ := pkN_rng h j
 have := off9g ⟨(pkN cs j).toNat, by omega⟩
 simp only [Int.toNat_of_nonneg h0] at this
 exact this
theorem add_g {x y : Nat} (hx : rk .f32 x ≤ 1073741824) (hy : rk .f32 y ≤ 1056964608) (gx : gr .f32 126 x) (gy : gr .f32 126 y) : gr .f32 126 (fadd .f32 x y) :=
 gr_add (fin_of hx (by decide)) (fin_of hy (by decide)) (fin_of (add_c hx hy) (by decide)) gx gy
theorem mv_g {cs : List Int} (h : bytes cs) (k : Nat) : ∀ v ∈ mvA cs (formV k), vG 126 v ∧ vB 1077936128 v := by
 intro v hv
 have hc := mv_c h k
 obtain ⟨i, hi, rfl⟩ := List.getElem_of_mem hv
 have hl : (mvA cs (formV k)).length = (formV k).length := mvN_len cs (formV k) _
 have e : (mvA cs (formV k))[i] = mvV cs i ((formV k).getD i ⟨0, 0, 0⟩) := by rw [← getD_lt (d := ⟨0, 0, 0⟩) hi];unfold mvA;rw [mvN_get, if_pos ⟨by omega, by omega⟩]
 refine ⟨?_, ?_⟩
 ·rw [e]
  have hm : (formV k).getD i ⟨0, 0, 0⟩ ∈ formV k := by rw [getD_lt (by omega)]; exact List.getElem_mem (by omega)
  have hg := form_g k _ hm;have hb := form_c k _ hm;generalize (formV k).getD i ⟨0, 0, 0⟩ = w at hg hb;exact ⟨add_g hb.1 (off_c h _) hg.1 (off_g h _), add_g hb.2.1 (off_c h _) hg.2.1 (off_g h _), add_g hb.2.2 (off_c h _) hg.2.2 (off_g h _)⟩
 ·have := hc (i : Int)
  unfold atV at this;rw [Int.toNat_natCast, getD_lt hi] at this;exact this
end Vs
