/-
  Meshes: lists of vectors beside lists of lists of whole numbers; what laws do with them; copies; which are valid.
-/
import Derived.Test.YtbaijndhllhplaaK4
import Derived.Test.YtbaijndhllhplaaE
set_option maxHeartbeats 4000000
namespace Vs
open Go
def il (l : List Int) : D := .lst (l.map .int)
def tl (l : List (List Int)) : D := .lst (l.map il)
def unint : D → Int | .int n => n | _ => 0
theorem unint_int (l : List Int) : (l.map D.int).map unint = l := by
 rw [List.map_map]
 exact List.map_id'' (fun _ => rfl) l
open Classical in
noncomputable def dI : D → Option (List Int)
 | .lst a => if a = (a.map unint).map .int then some (a.map unint) else none
 | _ => none
theorem dI_il (l : List Int) : dI (il l) = some l := by
 simp only [dI, il]
 rw [if_pos (by rw [unint_int]), unint_int]
theorem dI_inv {d : D} {l : List Int} (h : dI d = some l) : d = il l := by
 unfold dI at h
 split at h
 ·split at h
  ·rename_i hc
   cases h
   rw [il, ← hc]
  ·cases h
 ·cases h
theorem idx_il {l : List Int} {i : Nat} (h : i < l.length) : gev none .idx [il l, .int i] = some (.int l[i]) := by
 have h2 : (i : Int) < ((l.map D.int).length : Int) := by simp; omega
 simp only [gev, gok, if_true, Prim.ev, il]
 rw [if_pos ⟨by omega, h2⟩]
 simp [h]
theorem len_il {l : List Int} : gev none .len [il l] = some (.int (l.length : Int)) := by simp [gev, gok, Prim.ev, il]
theorem app_vls {l m : List V3} (h : l.length + m.length ≤ 1048576) : gev none .app [vl l, vl m] = some (vl (l ++ m)) := by
 simp only [gev, gok, if_true, Prim.ev, vl]
 rw [if_pos (by simp; omega)]
 simp
def inr (n : Int) (p : Int) : Bool := decide (0 ≤ p) && decide (p ≤ n - 1)
attribute [local irreducible] tif tjoin IntKind.wrap feq fadd fmul fsub fdiv fgt i2f wide vl il tl inr

end Vs
