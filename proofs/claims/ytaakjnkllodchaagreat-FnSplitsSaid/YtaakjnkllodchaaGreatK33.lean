/-
  The best edge of a mesh: the program's functions.
-/
import Derived.Test.YtaakjnkllodchaaGreatK32
set_option maxHeartbeats 4000000
namespace Vs
open Go Go.Sort
open Classical in
noncomputable def F430 : List D → Option (List D)
 | [a, b, c, d] => (dV a).bind fun vs => (dT b).bind fun ts => if validP vs.length ts = true ∧ c = a ∧ d = b then some (bstP (numL vs) (betL false) (edgL ts vs.length)) else none
 | _ => none
open Classical in
noncomputable def F431 : List D → Option (List D)
 | [a, b, c, d] => (dV a).bind fun vs => (dT b).bind fun ts => if validP vs.length ts = true ∧ c = a ∧ d = b then some (bstP (numL vs) (betL true) (edgL ts vs.length)) else none
 | _ => none
open Classical in
noncomputable def F432 : List D → Option (List D)
 | [a, b, c, d] => (dV a).bind fun vs => (dT b).bind fun ts => if validP vs.length ts = true ∧ c = a ∧ d = b then some (bstP (numF vs ts) (betL true) (edgL ts vs.length)) else none
 | _ => none
theorem idx_edl {l : List E2} {i : Nat} (h : i < l.length) : gev none .idx [edl l, .int i] = some (kD (l.getD i (0, 0))) := by
 have h2 : (i : Int) < ((l.map kD).length : Int) := by simp; omega
 simp only [gev, gok, if_true, Prim.ev, edl]
 rw [if_pos ⟨by omega, h2⟩, getD_lt h]
 simp [h]
theorem len_edl {l : List E2} : gev none .len [edl l] = some (.int (l.length : Int)) := by simp [gev, gok, Prim.ev, edl]
attribute [local irreducible] IntKind.wrap il tl vl bo mpD kD edl inr validP sheetP longP fsub lenP atV flC flD oneI twoI pairP flipQ atL thirdP fgt flt fge feq flipB gnP edgL etl

end Vs
