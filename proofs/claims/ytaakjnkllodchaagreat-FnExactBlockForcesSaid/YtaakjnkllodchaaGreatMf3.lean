/-
  Floats by their rungs: what the operations give lies between rungs that the exact value lies between.
-/
import Derived.Test.YtaakjnkllodchaaGreatE
set_option maxHeartbeats 4000000
namespace Vs
open Go Ieee
def V (f : Format) (r : Nat) : Nat := if r < f.binade then r else (f.binade + r % f.binade) * 2 ^ (r / f.binade - 1)
def rg (f : Format) (x : Nat) : Nat := x % f.signWeight
def sgn (f : Format) (x : Nat) : Bool := x / f.signWeight % 2 == 1
structure FOk (f : Format) : Prop where
 he : 2 ≤ f.exponentBits
 hU : f.leastPlace ≤ 0
 hw : f.infRung < f.signWeight
def Rd (f : Format) (N D r : Nat) : Prop := r ≤ f.infRung ∧ (∀ q, q ≤ f.infRung → N ≤ V f q * D → r ≤ q) ∧ (∀ q, q ≤ f.infRung → V f q * D ≤ N → q ≤ r)
theorem Rd.exact {f : Format} {N D r q : Nat} (h : Rd f N D r) (hq : q ≤ f.infRung) (e : N = V f q * D) : r = q :=
 Nat.le_antisymm (h.2.1 q hq (by omega)) (h.2.2 q hq (by omega))
end Vs
