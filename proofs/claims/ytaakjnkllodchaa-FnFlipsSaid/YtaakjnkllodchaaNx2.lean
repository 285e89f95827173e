/-
  Whole numbers sorted by the library's Sort: the kit's contract, turned into ours.
-/
import Derived.Test.YtaakjnkllodchaaNx1
import Derived.Shelf.SortG.Plain
import Derived.Shelf.SortG.SortNone
set_option maxHeartbeats 4000000
namespace Vs
open Go Go.RowKit Go.Proofs Go.Shelf Go.Sort
end Vs
