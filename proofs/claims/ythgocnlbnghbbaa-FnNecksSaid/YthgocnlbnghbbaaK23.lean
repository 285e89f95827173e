/-
  Necks: the law.
-/
import Derived.Test.YthgocnlbnghbbaaK22
import Derived.Test.YthgocnlbnghbbaaB4
import Derived.Test.YthgocnlbnghbbaaNk0
import Derived.Test.YthgocnlbnghbbaaNk1
import Derived.Test.YthgocnlbnghbbaaNk2
import Derived.Test.YthgocnlbnghbbaaNk3
import Derived.Test.YthgocnlbnghbbaaNk4
import Derived.Test.YthgocnlbnghbbaaNk5
import Derived.Test.YthgocnlbnghbbaaNk6
import Derived.Test.YthgocnlbnghbbaaNk7
import Derived.Test.YthgocnlbnghbbaaNk8
import Derived.Test.YthgocnlbnghbbaaNk9
import Derived.Test.YthgocnlbnghbbaaNk10
import Derived.Test.YthgocnlbnghbbaaNk11
import Derived.Test.YthgocnlbnghbbaaNk12
import Derived.Test.YthgocnlbnghbbaaNk13
import Derived.Test.YthgocnlbnghbbaaNk14
import Derived.Test.YthgocnlbnghbbaaNk15
namespace Vs
open Go

def radP (a : Nat) : Nat := fdiv .f32 (i2f .f32 ((1 + a : Nat) : Int)) 1082130432
def gapP (b : Nat) : Nat := fdiv .f32 (i2f .f32 ((1 + b : Nat) : Int)) 1098907648
def radL : List Nat := [1048576000, 1056964608, 1061158912, 1065353216, 1067450368, 1069547520, 1071644672, 1073741824, 1074790400, 1075838976, 1076887552, 1077936128, 1078984704, 1080033280, 1081081856, 1082130432]
def gapL : List Nat := [1031798784, 1040187392, 1044381696, 1048576000, 1050673152, 1052770304, 1054867456, 1056964608, 1058013184, 1059061760, 1060110336, 1061158912, 1062207488, 1063256064, 1064304640, 1065353216, 1065877504, 1066401792, 1066926080, 1067450368, 1067974656, 1068498944, 1069023232, 1069547520, 1070071808, 1070596096, 1071120384, 1071644672, 1072168960, 1072693248, 1073217536, 1073741824]
theorem radP_eq : ∀ a, a < 16 → radP a = radL.getD a 0 ∧ overP (radP a) = true := by decide +kernel
theorem gapP_mem : ∀ b, b < 32 → gapP b ∈ gapL ∧ overP (gapP b) = true ∧ overP (fmul .f32 (gapP b) 1048576000) = true := by decide +kernel
theorem nkA : ∀ a, a < 16 → ∀ g ∈ gapL, nkOk (radL.getD a 0) g = true
  | 0, _ => nk0
  | 1, _ => nk1
  | 2, _ => nk2
  | 3, _ => nk3
  | 4, _ => nk4
  | 5, _ => nk5
  | 6, _ => nk6
  | 7, _ => nk7
  | 8, _ => nk8
  | 9, _ => nk9
  | 10, _ => nk10
  | 11, _ => nk11
  | 12, _ => nk12
  | 13, _ => nk13
  | 14, _ => nk14
  | 15, _ => nk15
  | n + 16, h => absurd h (by omega)
theorem nk_all {a b : Nat} (ha : a < 16) (hb : b < 32) : nkOk (radP a) (gapP b) = true := by
  rw [(radP_eq a ha).1]
  exact nkA a ha _ (gapP_mem b hb).1
theorem F231_of {x y d : Nat} (h : Prim.ev (.fmax .f64) [.flt (fsub .f64 x y), .flt (fsub .f64 y x)] = some (.flt d)) : F231 [.flt x, .flt y] = some [.flt d] := by
  simp [F231, Frun, T231, run, Guard.ok, evs, Atom.ev, Prim.ev, farith] at h ⊢
  rw [h]
  rfl
theorem gapOk_inv {x y lim : Nat} (h : gapOk x y lim = true) : ∃ d, F231 [.flt x, .flt y] = some [.flt d] ∧ fgt .f64 d lim = false := by
  unfold gapOk gapD at h
  simp only [fsubF_eq, fgtF_eq] at h
  split at h
  · rename_i d hd
    refine ⟨d, F231_of ?_, by simpa using h⟩
    unfold Prim.ev
    simp only
    split at hd
    · rename_i e
      rw [e]
      simp only [Option.some.injEq] at hd
      rw [← hd]
    · rename_i e
      rw [e]
      simp only [Option.some.injEq] at hd
      rw [← hd]
    · rename_i e
      rw [e]
      simp only [Option.some.injEq] at hd
      rw [← hd]
    · cases hd
  · cases h

/-- What is known of one place. -/
def PlaceF (edge : Bool) (l r w : Nat) : Prop :=
  fgt .f64 (wide w) (fmul .f64 4607186922399644778 (wide r)) = false ∧ Vs.flt .f64 (wide w) (fmul .f64 4607173411600762667 (wide l)) = false ∧ (edge = true → ∃ d, F231 [.flt (wide w), .flt (wide r)] = some [.flt d] ∧ fgt .f64 d (fmul .f64 4562254508917369340 (wide r)) = false)
theorem place_inv {edge : Bool} {l r w : Nat} (h : placeOk edge l r w = true) : PlaceF edge l r w := by
  unfold placeOk at h
  simp only [fgtF_eq, fltF_eq, wideF_eq, fmulF_eq, Bool.and_eq_true, Bool.not_eq_true'] at h
  refine ⟨h.1.1, h.1.2, fun he => ?_⟩
  rw [he] at h
  exact gapOk_inv h.2
theorem longF_eq (x y : Nat) : longF x y = longP x y 0 := by
  unfold longF longP rootP innerP
  rw [narF_eq, wideF_eq, faddF_eq, faddF_eq, fmulF_eq, fmulF_eq, fmulF_eq]
theorem sins_eq : sins = (List.range 8).map fun k => (sinQ 8 k, sin0 8 k) := by
  have h1 := sinQ8
  have h2 := sin08
  simp only [List.cons.injEq] at h1 h2
  obtain ⟨a0, a1, a2, a3, a4, a5, a6, a7, _⟩ := h1
  obtain ⟨b0, b1, b2, b3, b4, b5, b6, b7, _⟩ := h2
  simp only [sins, List.range, List.range.loop, List.map_cons, List.map_nil, a0, a1, a2, a3, a4, a5, a6, a7, b0, b1, b2, b3, b4, b5, b6, b7]
theorem row_inv {edge : Bool} {l r W : Nat} : ∀ {t : List (Nat × Nat)}, rowOk edge l r W t = true → ∀ p ∈ t, PlaceF edge l r (longP (fmul .f32 W p.1) (fmul .f32 W p.2) 0)
  | [], _, p, hp => by cases hp
  | (a, b) :: t, h, p, hp => by
    unfold rowOk at h
    rw [Bool.and_eq_true] at h
    rcases List.mem_cons.1 hp with e | e
    · subst e
      have := place_inv h.1
      rw [longF_eq, fmulF_eq, fmulF_eq] at this
      exact this
    · exact row_inv h.2 p e
theorem row8 {edge : Bool} {l r W k : Nat} (h : rowOk edge l r W sins = true) (hk : k < 8) : PlaceF edge l r (longP (fmul .f32 W (sinQ 8 k)) (fmul .f32 W (sin0 8 k)) 0) := by
  rw [sins_eq] at h
  exact row_inv h (sinQ 8 k, sin0 8 k) (List.mem_map.2 ⟨k, List.mem_range.2 hk, rfl⟩)
theorem mid_inv {l r g h : Nat} (hm : midRow l r g h = true) : ∃ W, widthO l (fsub .f32 (fmul .f32 g h) (fmul .f32 1056964608 g)) = some W ∧ rowOk false l r W sins = true := by
  unfold midRow filZF at hm
  simp only [widthOF_eq, fsubF_eq, fmulF_eq] at hm
  split at hm
  · rename_i W hW
    exact ⟨W, hW, hm⟩
  · cases hm
theorem quarters : fdiv .f32 (i2f .f32 ((1 : Nat) : Int)) (i2f .f32 ((4 : Nat) : Int)) = 1048576000 ∧ fdiv .f32 (i2f .f32 ((2 : Nat) : Int)) (i2f .f32 ((4 : Nat) : Int)) = 1056964608 ∧ fdiv .f32 (i2f .f32 ((3 : Nat) : Int)) (i2f .f32 ((4 : Nat) : Int)) = 1061158912 := by decide +kernel
def edgeB (i : Nat) : Bool := decide (i < 8) || decide (32 ≤ i)
/-- What is known of one input. -/
def NkF (r g : Nat) : Prop :=
  (neckO r g = some none ∧ Vs.flt .f64 (wide g) (fmul .f64 4607173411600762667 (wide (fmul .f32 1068083597 r))) = false) ∨
  ∃ l w a, neckO r g = some (some l) ∧ fgt .f64 (wide g) (fmul .f64 4607186922399644778 (wide (fmul .f32 1068083597 r))) = false ∧
    widthO l (fmul .f32 g 1056964608) = some w ∧ (∃ d, F231 [.flt (wide w), .flt (wide r)] = some [.flt d] ∧ fgt .f64 d (fmul .f64 4562254508917369340 (wide r)) = false) ∧
    fgt .f32 l r = false ∧ fgt .f32 l 0 = true ∧
    areaO l g = some a ∧ fgt .f64 (wide a) (fmul .f64 4607186922399644778 (fmul .f64 (fmul .f64 4618760256283922839 (wide r)) (wide g))) = false ∧
    ∀ i, i < 40 → PlaceF (edgeB i) l r (longP (filV 8 4 r g l i).x (filV 8 4 r g l i).y 0)
theorem nk_inv {r g : Nat} (h : nkOk r g = true) : NkF r g := by
  unfold nkOk at h
  rw [neckOF_eq] at h
  split at h
  · cases h
  · rename_i hn
    simp only [fltF_eq, wideF_eq, fmulF_eq, Bool.not_eq_true'] at h
    exact Or.inl ⟨hn, h⟩
  · rename_i l hn
    right
    simp only [Bool.and_eq_true, Bool.not_eq_true', fgtF_eq, wideF_eq, fmulF_eq, widthOF_eq, areaOF_eq] at h
    obtain ⟨⟨⟨⟨⟨⟨⟨⟨h1, h2⟩, h3⟩, h4⟩, h5⟩, h6⟩, h7⟩, h8⟩, h9⟩ := h
    split at h2
    case h_2 => cases h2
    rename_i w hw
    split at h5
    case h_2 => cases h5
    rename_i a ha
    refine ⟨l, w, a, hn, h1, hw, gapOk_inv h2, h3, h4, ha, by simpa using h5, fun i hi => ?_⟩
    obtain ⟨W1, w1, r1⟩ := mid_inv h7
    obtain ⟨W2, w2, r2⟩ := mid_inv h8
    obtain ⟨W3, w3, r3⟩ := mid_inv h9
    obtain ⟨q1, q2, q3⟩ := quarters
    have hk : i % 8 < 8 := Nat.mod_lt _ (by decide)
    have f0 : filW 4 r g l 0 = r := by unfold filW; simp
    have f4 : filW 4 r g l 4 = r := by unfold filW; simp
    have f1 : filW 4 r g l 1 = W1 := by unfold filW filZ; rw [q1, w1]; simp
    have f2 : filW 4 r g l 2 = W2 := by unfold filW filZ; rw [q2, w2]; simp
    have f3 : filW 4 r g l 3 = W3 := by unfold filW filZ; rw [q3, w3]; simp
    unfold filV
    simp only
    have hd : i / 8 = 0 ∨ i / 8 = 1 ∨ i / 8 = 2 ∨ i / 8 = 3 ∨ i / 8 = 4 := by omega
    rcases hd with e | e | e | e | e
    · have : edgeB i = true := by unfold edgeB; simp; omega
      rw [e, f0, this]
      exact row8 h6 hk
    · have : edgeB i = false := by unfold edgeB; simp; omega
      rw [e, f1, this]
      exact row8 r1 hk
    · have : edgeB i = false := by unfold edgeB; simp; omega
      rw [e, f2, this]
      exact row8 r2 hk
    · have : edgeB i = false := by unfold edgeB; simp; omega
      rw [e, f3, this]
      exact row8 r3 hk
    · have : edgeB i = true := by unfold edgeB; simp; omega
      rw [e, f4, this]
      exact row8 h6 hk
end Vs
