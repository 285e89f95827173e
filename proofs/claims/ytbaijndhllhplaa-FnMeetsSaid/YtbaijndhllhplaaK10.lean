/-
  Bodies: a mesh, springs, weights and numbers; what laws do with them; which are valid.
-/
import Derived.Test.YtbaijndhllhplaaK9
set_option maxHeartbeats 4000000
namespace Vs
open Go
structure Sp where
 a : Int
 b : Int
 l : Nat
 k : Nat
def spr (s : Sp) : D := .agg [.int s.a, .int s.b, .flt s.l, .flt s.k]
def sl (l : List Sp) : D := .lst (l.map spr)
def fl (l : List Nat) : D := .lst (l.map .flt)
theorem idx_fl {l : List Nat} {i : Nat} (h : i < l.length) : gev none .idx [fl l, .int i] = some (.flt l[i]) := by
 have h2 : (i : Int) < ((l.map D.flt).length : Int) := by simp; omega
 simp only [gev, gok, if_true, Prim.ev, fl]
 rw [if_pos ⟨by omega, h2⟩]
 simp [h]
theorem set_fl {l : List Nat} {i : Nat} {v : Nat} (h : i < l.length) : gev none .set [fl l, .int i, .flt v] = some (fl (l.set i v)) := by
 have h2 : (i : Int) < ((l.map D.flt).length : Int) := by simp; omega
 simp only [gev, gok, if_true, Prim.ev, fl]
 rw [if_pos ⟨by omega, h2⟩]
 simp [List.map_set]
structure Bd where
 vs : List V3
 ts : List (List Int)
 ss : List Sp
 fm : Nat
 bn : Nat
 ws : List Nat
 x : Nat
 y : Nat
 z : Nat
structure lawB (B : Bd) : Prop where
 m : lawM B.vs B.ts
 s : B.ss.length < 9223372036854775808
 w : B.ws.length < 9223372036854775808
attribute [local irreducible] tif tjoin IntKind.wrap feq fadd fmul fsub fdiv fgt fge flt fneg i2f wide vl il tl sl fl inr innerP longP rootP

end Vs
