/-
  Flips of the forms: what the numbers of the places tell, reckoned.
-/
import Derived.Test.YtaakjnkllodchaaGreatK48
set_option maxHeartbeats 4000000
namespace Vs
open Go Go.Sort
def formOk (n : Nat) (ts : List (List Int)) : Bool := validP n ts && sheetP ts && decide (2 ≤ (edgL ts n).length)
set_option maxRecDepth 100000
theorem form0 : formOk 9 ft0 = true := by decide +kernel
theorem form1 : formOk 12 ft1 = true := by decide +kernel
theorem form2 : formOk 8 ft2 = true := by decide +kernel
theorem form3 : formOk 6 ft3 = true := by decide +kernel
theorem form4 : formOk 18 ft4 = true := by decide +kernel
theorem form_ok : ∀ k, formOk (formV k).length (formT k) = true
 | 0 => form0
 | 1 => form1
 | 2 => form2
 | 3 => form3
 | _ + 4 => form4
end Vs
