/-
  An edge joined: the mesh stays valid; twins by sorted triples and by places.
-/
import Derived.Test.YtaakjnkllodchaaK29
import Derived.Test.YtaakjnkllodchaaK14
import Derived.Test.YtaakjnkllodchaaNx2
set_option maxHeartbeats 4000000
namespace Vs
open Go Go.Sort
def usN (ts : List (List Int)) : Nat → Nat
 | 0 => 0
 | p + 1 => usN ts p + (if usedP ts p = true then 1 else 0)
def eulP (n : Nat) (ts : List (List Int)) : Int := (usN ts n : Int) - (edgL ts n).length + ts.length
theorem usN_le (ts : List (List Int)) : ∀ p, usN ts p ≤ p
 | 0 => Nat.le_refl _
 | p + 1 => by have := usN_le ts p;simp only [usN];split <;> omega
end Vs
