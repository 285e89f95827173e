/-
  A number in single precision is a number in double precision.
-/
import Derived.Test.YtfpmhmngebnphaaNs1
namespace Vs
open Go Ieee

theorem read_single {x : Nat} {s : Bool} {m : Nat} {e : Int} (h : single.read x = .number s m e) : m < 2 ^ 24 ∧ -149 ≤ e ∧ e ≤ 104 := by
  unfold Format.read at h
  have hb : single.binade = 8388608 := by decide
  have hi : single.infRung = 2139095040 := by decide
  have hl : single.leastPlace = -149 := by decide
  simp only [hb, hi, hl] at h
  generalize x % single.signWeight = r at h
  split at h
  · simp only [Datum.number.injEq] at h
    omega
  · split at h
    · simp only [Datum.number.injEq] at h
      omega
    · split at h <;> cases h

theorem cut_zero (neg : Bool) (n : Nat) : Toward.even.cut neg n 0 = n := by
  simp [Toward.cut]
  omega

theorem nearest_wide {s : Bool} {m : Nat} {e : Int} (hm : m < 2 ^ 24) (h1 : -149 ≤ e) (h2 : e ≤ 104) : ∃ r, double.nearest s m e = double.word s r ∧ r < double.infRung := by
  have hb : double.binade = 4503599627370496 := by decide
  have hi : double.infRung = 9218868437227405312 := by decide
  have hl : double.leastPlace = -1074 := by decide
  have hf : double.fractionBits = 52 := rfl
  unfold Format.nearest
  split
  · exact ⟨0, rfl, by rw [hi]; omega⟩
  · rename_i h0
    rw [hi, hb, hl, hf]
    have hlog : m.log2 < 24 := (Nat.log2_lt h0).2 hm
    have hmax : max (e + (m.log2 : Int) - ((52 : Nat) : Int)) (-1074) = e + m.log2 - 52 := by omega
    simp only [hmax]
    have e1 : (e - (e + (m.log2 : Int) - 52)).toNat = 52 - m.log2 := by omega
    have e2 : (e + (m.log2 : Int) - 52 - e).toNat = 0 := by omega
    rw [e1, e2, cut_zero]
    refine ⟨_, rfl, ?_⟩
    have hk : m <<< (52 - m.log2) < 2 ^ 53 := by
      rw [Nat.shiftLeft_eq]
      have hml : m < 2 ^ (m.log2 + 1) := Nat.lt_log2_self
      calc m * 2 ^ (52 - m.log2) < 2 ^ (m.log2 + 1) * 2 ^ (52 - m.log2) := Nat.mul_lt_mul_of_pos_right hml (Nat.two_pow_pos _)
        _ = 2 ^ 53 := by rw [← Nat.pow_add]; congr 1; omega
    generalize m <<< (52 - m.log2) = k at hk ⊢
    have : (e + (m.log2 : Int) - 52 - -1074).toNat ≤ 1149 := by omega
    generalize (e + (m.log2 : Int) - 52 - -1074).toNat = q at this ⊢
    have h3 := Nat.mul_le_mul_right 4503599627370496 this
    refine Nat.lt_of_le_of_lt (Nat.min_le_left _ _) (Nat.lt_of_lt_of_le (Nat.add_lt_add_of_le_of_lt h3 hk) (by decide))

theorem read_word {f : Format} {s : Bool} {r : Nat} (hw : f.infRung < f.signWeight) (h : r < f.infRung) : (f.read (f.word s r)).isInfinity = false := by
  have hr : f.word s r % f.signWeight = r := by
    unfold Format.word
    split
    · rw [Nat.add_mod_left]; exact Nat.mod_eq_of_lt (by omega)
    · exact Nat.mod_eq_of_lt (by omega)
  unfold Format.read
  simp only [hr, if_pos h]
  split <;> simp [Datum.isInfinity]

theorem double_ok : double.infRung < double.signWeight := by decide

/-- Single precision as double precision. -/
def wide (x : Nat) : Nat := (f2f .f32 .f64 x).getD 0

theorem f2f_wide (x : Nat) : f2f .f32 .f64 x = some (wide x) := by
  have : ∃ y, f2f .f32 .f64 x = some y := by
    unfold f2f
    rw [if_neg (by decide)]
    split
    · exact ⟨_, rfl⟩
    · exact ⟨_, rfl⟩
    · rename_i s m e h
      obtain ⟨a, b, c⟩ := read_single h
      obtain ⟨r, h1, h2⟩ := nearest_wide (s := s) a b c
      have : (FloatKind.f64.decode (FloatKind.f64.encode (.number s m e))).isInfinity = false := by
        show (double.read (double.nearest s m e)).isInfinity = false
        rw [h1]
        exact read_word double_ok h2
      rw [this]
      exact ⟨_, rfl⟩
  obtain ⟨y, hy⟩ := this
  rw [wide, hy]
  rfl

end Vs
