/-
  Flips of the forms: what the numbers of the places tell, reckoned.
-/
import Derived.Test.YtaakjnkllodchaaK48
set_option maxHeartbeats 4000000
namespace Vs
open Go Go.Sort
def othL (t : List Int) (a b : Int) : Int := othP (t.getD 0 0) (t.getD 1 0) (t.getD 2 0) a b
def fC (ts : List (List Int)) (a b : Int) : Int := othL (ts.getD ((atL ts a b).getD 0 0).toNat []) a b
def fD (ts : List (List Int)) (a b : Int) : Int := othL (ts.getD ((atL ts a b).getD 1 0).toNat []) a b
def prEq (x y a b : Int) : Bool := (x == a && y == b) || (x == b && y == a)
def flipOk (n : Nat) (ts : List (List Int)) (a b : Int) : Bool :=
 (flipT ts a b).length == ts.length && validP n (flipT ts a b) && sheetP (flipT ts a b) && decide (eulP n ts = eulP n (flipT ts a b)) && pairP n (flipT ts a b) (fC ts a b) (fD ts a b) && flipB (flipT ts a b) (fC ts a b) (fD ts a b) &&
  validP n (flipT (flipT ts a b) (fC ts a b) (fD ts a b)) && decide (edgL (flipT (flipT ts a b) (fC ts a b) (fD ts a b)) n = edgL ts n) &&
  prEq (flC (flipT ts a b) (fC ts a b) (fD ts a b)) (flD (flipT ts a b) (fC ts a b) (fD ts a b)) a b && prEq (fC ts a b) (fD ts a b) (flC ts a b) (flD ts a b)
def edgeOk (n : Nat) (ts : List (List Int)) (e : E2) : Bool := inr n e.1 && inr n e.2 && (e.1 != e.2) && (!(flipB ts e.1 e.2) || flipOk n ts e.1 e.2)
def formOk (n : Nat) (ts : List (List Int)) : Bool := validP n ts && sheetP ts && decide (2 ≤ (edgL ts n).length)
set_option maxRecDepth 100000
theorem form0 : formOk 9 ft0 = true := by decide +kernel
theorem edges0 : (edgL ft0 9).all (edgeOk 9 ft0) = true := by decide +kernel
theorem form1 : formOk 12 ft1 = true := by decide +kernel
theorem edges1 : (edgL ft1 12).all (edgeOk 12 ft1) = true := by decide +kernel
theorem form2 : formOk 8 ft2 = true := by decide +kernel
theorem edges2 : (edgL ft2 8).all (edgeOk 8 ft2) = true := by decide +kernel
theorem form3 : formOk 6 ft3 = true := by decide +kernel
theorem edges3 : (edgL ft3 6).all (edgeOk 6 ft3) = true := by decide +kernel
theorem form4 : formOk 18 ft4 = true := by decide +kernel
theorem form_ok : ∀ k, formOk (formV k).length (formT k) = true
 | 0 => form0
 | 1 => form1
 | 2 => form2
 | 3 => form3
 | _ + 4 => form4
end Vs
