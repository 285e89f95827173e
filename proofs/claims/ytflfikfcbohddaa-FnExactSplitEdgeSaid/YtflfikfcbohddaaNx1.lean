/-
  Edges (two whole numbers each) sorted by the library's SortFunc: the kit's contract, turned into ours.
-/
import Derived.Test.YtflfikfcbohddaaE
import Derived.Shelf.SlSortCmp.NoneTotal
namespace Vs
open Go Go.RowKit Go.Proofs Go.Shelf Go.Sort

end Vs
