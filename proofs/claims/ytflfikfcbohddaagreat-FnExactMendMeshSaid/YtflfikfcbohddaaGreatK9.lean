/-
  How thick triangles are: ThicknessOf, ThinTriangles.
-/
import Derived.Test.YtflfikfcbohddaaGreatK8
set_option maxHeartbeats 4000000
namespace Vs
open Go
attribute [local irreducible] tif tjoin IntKind.wrap feq fadd fmul fsub fdiv fgt i2f sameP wide eqV vl il tl totL szM szP marksV marksT inr triP validP innerP longP rootP flt

theorem F102_il {l : List Int} {m : Int} (h : l.length ≤ 1048576) (h0 : 0 ≤ m) (h1 : m ≤ 1048576) : F102 [il l, .int m] = some [.int (m + l.length), .lst (mk m l.length)] := by
 unfold il
 simp only [F102, List.length_map]
 rw [if_pos ⟨h0, by omega⟩]
theorem F104_mk {n : Nat} {m : Int} (h : n ≤ 1048576) (h0 : 0 ≤ m) (h1 : m ≤ 1048576) : F104 [.lst (mk m n), .int m] = some [.int (m + n)] := by
 simp only [F104, mk_length]
 rw [if_pos ⟨trivial, h0, by omega⟩]
end Vs
