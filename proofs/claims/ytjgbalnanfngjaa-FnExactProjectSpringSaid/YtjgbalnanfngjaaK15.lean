/-
  ColourClass: what the functions compute, and the law.
-/
import Derived.Test.YtjgbalnanfngjaaK13
namespace Vs
open Go

attribute [local irreducible] tif tjoin IntKind.wrap feq fadd fmul fsub fdiv fgt fge flt fneg i2f sameP wide eqV vl il tl sl fl totL validB mkB szM szP marksV marksT inr triP validP innerP longP rootP

end Vs
