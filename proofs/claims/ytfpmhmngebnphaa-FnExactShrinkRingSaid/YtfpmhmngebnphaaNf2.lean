import Derived.Test.YtfpmhmngebnphaaMf1
namespace Vs
open Go Ieee
theorem read_notnan {neg : Bool} {r : Nat} (h : r ≤ single.infRung) : (single.read (single.word neg r)).isNaN = false := by
  have hb : single.binade = 8388608 := by decide
  have hi : single.infRung = 2139095040 := by decide
  have hs : single.signWeight = 2147483648 := by decide
  have hw : single.word neg r % single.signWeight = r := by
    unfold Format.word
    rw [hs]
    rw [hi] at h
    cases neg <;> simp <;> omega
  unfold Format.read
  rw [hw]
  simp only
  split
  · rfl
  · split
    · rfl
    · split
      · rfl
      · omega
end Vs
namespace Vs
open Go Ieee
theorem i2f_notnan (n : Int) : isnan .f32 (FloatKind.f32.nearest n) = false := by
  show (single.read (single.nearest (n < 0) n.natAbs 0)).isNaN = false
  unfold Format.nearest
  split
  · exact read_notnan (Nat.zero_le _)
  · exact read_notnan (Nat.min_le_right _ _)
end Vs
namespace Vs
open Go Ieee
theorem feq_self {k : FloatKind} {x : Nat} (h : isnan k x = false) : feq k x x = true := by
  unfold feq Format.order
  unfold isnan at h
  change (k.format.read x).isNaN = false at h
  cases hd : k.format.read x with
  | number s m e =>
    unfold Datum.order
    simp [Std.ReflCmp.compare_self]
  | infinity s => cases s <;> rfl
  | nan s f => rw [hd] at h; cases h
end Vs
