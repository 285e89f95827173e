/-
  The sizes of bubbles, one by one.
-/
import Derived.Test.YthgocnlbnghbbaaB1
namespace Vs
open Go

end Vs
