/-
  Signatures.
-/
import Derived.Test.YtfpmhmngebnphaaNs18
import Derived.Test.YtfpmhmngebnphaaNs19
import Derived.Test.YtfpmhmngebnphaaNs22
namespace Vs
open Go

abbrev f1 : BT := .flt .f32
abbrev f8 : BT := .flt .f64
abbrev i8 : BT := .int .i64
abbrev pv (t : BT) : PK := .val false [.rd (.b t)]
abbrev rv (t : BT) : Bool × List RK := (false, [.cell t])
/-- A slice that is read; a slice of slices. -/
abbrev p1 (e : ET) : PK := .val false [.rd (.s1 e)]
abbrev p2 (e : ET) : PK := .val false [.rd (.s2 e)]
/-- An own slice that is handed over. -/
abbrev m1 (e : ET) (t : TypeId) (keep : Bool) : PK := .val false [.mt (.row (.s1 e) t) keep]
abbrev m2 (e : ET) (t u : TypeId) (keep : Bool) : PK := .val false [.mt (.rows e t u) keep]
abbrev r1 (e : ET) (t : TypeId) : Bool × List RK := (false, [.own (.row (.s1 e) t)])
abbrev r2 (e : ET) (t u : TypeId) : Bool × List RK := (false, [.own (.rows e t u)])
abbrev ei : ET := ⟨false, [i8]⟩
abbrev eb : ET := ⟨false, [.bool]⟩
abbrev eV : ET := ⟨true, [f1, f1, f1]⟩

end Vs
