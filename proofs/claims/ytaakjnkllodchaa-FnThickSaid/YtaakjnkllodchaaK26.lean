/-
  The triangles of each edge (a map), and the edges in order; which meshes are sheets, by maps.
-/
import Derived.Test.YtaakjnkllodchaaK25
set_option maxHeartbeats 4000000
namespace Vs
open Go Go.Sort
section
variable {β : Type} {f : β → D} {kvs : List (E2 × β)} {e : E2}
end
theorem itf {body : List D → Option (Nat × List D)} {f g : Nat} {ds : List D} {r} (h : iter body f ds = some r) (hg : f ≤ g) : iter body g ds = some r := iter_mono (fun _ _ h => h) h hg
theorem valid_len {n : Nat} {ts : List (List Int)} (h : validP n ts = true) : n ≤ 64 ∧ ts.length ≤ 128 := by
 unfold validP at h
 simp only [Bool.and_eq_true, decide_eq_true_eq] at h
 exact h.1
attribute [local irreducible] IntKind.wrap il tl vl


end Vs
