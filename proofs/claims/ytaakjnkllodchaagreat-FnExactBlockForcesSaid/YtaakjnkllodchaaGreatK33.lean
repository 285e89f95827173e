/-
  The best edge of a mesh: the program's functions.
-/
import Derived.Test.YtaakjnkllodchaaGreatK32
set_option maxHeartbeats 4000000
namespace Vs
open Go Go.Sort
theorem idx_edl {l : List E2} {i : Nat} (h : i < l.length) : gev none .idx [edl l, .int i] = some (kD (l.getD i (0, 0))) := by
 have h2 : (i : Int) < ((l.map kD).length : Int) := by simp; omega
 simp only [gev, gok, if_true, Prim.ev, edl]
 rw [if_pos ⟨by omega, h2⟩, getD_lt h]
 simp [h]
theorem len_edl {l : List E2} : gev none .len [edl l] = some (.int (l.length : Int)) := by simp [gev, gok, Prim.ev, edl]
theorem p_k0 {p q : Int} : gev none (.proj 0) [kD (p, q)] = some (.int p) := (rfl)
theorem p_k1 {p q : Int} : gev none (.proj 1) [kD (p, q)] = some (.int q) := (rfl)
attribute [local irreducible] IntKind.wrap il tl vl bo mpD kD edl inr validP longP fsub atL thirdP fgt flt fge feq edgL etl

end Vs
