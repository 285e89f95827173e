/-
  Necks: what is asked of one input.
-/
import Derived.Test.YthgocnlbnghbbaaK21
import Derived.Test.YthgocnlbnghbbaaMf8
namespace Vs
open Go Ieee

theorem sinQ8 : [sinQ 8 0, sinQ 8 1, sinQ 8 2, sinQ 8 3, sinQ 8 4, sinQ 8 5, sinQ 8 6, sinQ 8 7] = [1065353216, 1060439283, 2147483648, 3207922931, 3212836864, 3207922931, 0, 1060439283] := by decide +kernel
theorem sin08 : [sin0 8 0, sin0 8 1, sin0 8 2, sin0 8 3, sin0 8 4, sin0 8 5, sin0 8 6, sin0 8 7] = [0, 1060439283, 1065353216, 1060439283, 2147483648, 3207922931, 3212836864, 3207922931] := by decide +kernel

def gapD (x y : Nat) : Option Nat :=
  match FloatKind.f64.format.order (fsubF .f64 x y) (fsubF .f64 y x) with
  | some .lt => some (fsubF .f64 y x)
  | some .gt => some (fsubF .f64 x y)
  | some .eq => some (if (FloatKind.f64.decode (fsubF .f64 x y)).neg then fsubF .f64 y x else fsubF .f64 x y)
  | none => none
def gapOk (x y lim : Nat) : Bool := match gapD x y with | some d => !fgtF .f64 d lim | none => false
def longF (x y : Nat) : Nat := (narF (fsqrt .f64 (wideF (faddF .f32 (faddF .f32 (fmulF .f32 x x) (fmulF .f32 y y)) (fmulF .f32 0 0))))).getD 0
def placeOk (edge : Bool) (l r w : Nat) : Bool :=
  !fgtF .f64 (wideF w) (fmulF .f64 4607186922399644778 (wideF r)) && !fltF .f64 (wideF w) (fmulF .f64 4607173411600762667 (wideF l)) && (bif edge then gapOk (wideF w) (wideF r) (fmulF .f64 4562254508917369340 (wideF r)) else true)
def rowOk (edge : Bool) (l r W : Nat) : List (Nat × Nat) → Bool
  | [] => true
  | (a, b) :: t => placeOk edge l r (longF (fmulF .f32 W a) (fmulF .f32 W b)) && rowOk edge l r W t
def sins : List (Nat × Nat) := [(1065353216, 0), (1060439283, 1060439283), (2147483648, 1065353216), (3207922931, 1060439283), (3212836864, 2147483648), (3207922931, 3207922931), (0, 3212836864), (1060439283, 3207922931)]
def filZF (g r : Nat) : Nat := fsubF .f32 (fmulF .f32 g r) (fmulF .f32 1056964608 g)
def midRow (l r g h : Nat) : Bool := match widthOF l (filZF g h) with | some W => rowOk false l r W sins | none => false
/-- What the law asks of one input: the radius r, the gap g. -/
def nkOk (r g : Nat) : Bool :=
  match neckOF r g with
  | none => false
  | some none => !fltF .f64 (wideF g) (fmulF .f64 4607173411600762667 (wideF (fmulF .f32 1068083597 r)))
  | some (some l) =>
    !fgtF .f64 (wideF g) (fmulF .f64 4607186922399644778 (wideF (fmulF .f32 1068083597 r))) &&
    (match widthOF l (fmulF .f32 g 1056964608) with | some w => gapOk (wideF w) (wideF r) (fmulF .f64 4562254508917369340 (wideF r)) | none => false) &&
    !fgtF .f32 l r && fgtF .f32 l 0 &&
    (match areaOF l g with | some a => !fgtF .f64 (wideF a) (fmulF .f64 4607186922399644778 (fmulF .f64 (fmulF .f64 4618760256283922839 (wideF r)) (wideF g))) | none => false) &&
    rowOk true l r r sins && midRow l r g 1048576000 && midRow l r g 1056964608 && midRow l r g 1061158912
end Vs
