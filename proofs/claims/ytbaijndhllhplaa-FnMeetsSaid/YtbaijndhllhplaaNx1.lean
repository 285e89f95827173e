/-
  Edges (two whole numbers each) sorted by the library's SortFunc: the kit's contract, turned into ours.
-/
import Derived.Test.YtbaijndhllhplaaE
import Derived.Shelf.SlSortCmp.NoneTotal
set_option maxHeartbeats 4000000
namespace Vs
open Go Go.RowKit Go.Proofs Go.Shelf Go.Sort
abbrev pe : PK := .val true [.rd (.b (.int .i64)), .rd (.b (.int .i64))]
end Vs
