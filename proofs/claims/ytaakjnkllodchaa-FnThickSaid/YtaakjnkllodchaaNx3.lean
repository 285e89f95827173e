/-
  One of a slice of elements of three like cells taken out by the library's Delete, in place.
-/
import Derived.Test.YtaakjnkllodchaaNx1
import Derived.Shelf.SortG.Plain
import Derived.Shelf.SortG.SortNone
import Derived.Shelf.SlLaysE0
import Derived.Shelf.SlicesE.Delete
set_option maxHeartbeats 4000000
namespace Go.Proofs
open Go.Shelf Go.RowKit Go.Lib Go.Sort
variable {P : Program} {ρ : Ren}
end Go.Proofs
namespace Vs
open Go Go.RowKit Go.Proofs Go.Shelf Go.Sort
def F440 : List D → Option (List D)
 | [.lst l, .int i, .int j] => if j = i + 1 ∧ 0 ≤ i ∧ i < l.length ∧ l.length ≤ 1048576 then some [.lst (l.take i.toNat ++ l.drop (i.toNat + 1))] else none
 | _ => none
end Vs
