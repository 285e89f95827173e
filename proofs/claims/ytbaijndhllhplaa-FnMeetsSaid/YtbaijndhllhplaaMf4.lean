/-
  The floating-point operations of the program, by rungs; how numbers compare; narrowing and widening.
-/
import Derived.Test.YtbaijndhllhplaaMf3
set_option maxHeartbeats 4000000
namespace Vs
open Go Ieee
theorem okF (k : FloatKind) : FOk k.format := by cases k; exact okS; exact okD
theorem read_word_notnan {f : Format} (hf : FOk f) {s : Bool} {r : Nat} (h : r ≤ f.infRung) : (f.read (f.word s r)).isNaN = false := by
 have hr := word_rg hf (s := s) h
 unfold rg at hr
 unfold Format.read
 simp only [hr]
 split
 ·rfl
 ·split
  ·rfl
  ·rw [if_pos (by omega)]; rfl
theorem canon_word {k : FloatKind} {s : Bool} {r : Nat} (h : r ≤ k.format.infRung) : canon k (k.format.word s r) = k.format.word s r := by
 unfold canon isnan FloatKind.decode
 rw [read_word_notnan (okF k) h]
 rfl
variable {k : FloatKind} {x y : Nat}
abbrev inf (k : FloatKind) : Nat := k.format.infRung
abbrev rk (k : FloatKind) (x : Nat) : Nat := rg k.format x
abbrev Vk (k : FloatKind) (r : Nat) : Nat := V k.format r
abbrev dn (k : FloatKind) : Nat := 2 ^ (-k.format.leastPlace).toNat
def sv (k : FloatKind) (x : Nat) : Int := if sgn k.format x = true then -(Vk k (rk k x) : Int) else Vk k (rk k x)
theorem fmul_R (hx : rk k x < inf k) (hy : rk k y < inf k) : ∃ r, fmul k x y = k.format.word (sgn k.format x ^^ sgn k.format y) r ∧ Rd k.format (Vk k (rk k x) * Vk k (rk k y)) (dn k) r := by
 obtain ⟨r, h, hr⟩ := mul_R (okF k) hx hy
 exact ⟨r, by rw [fmul, h, fin, canon_word hr.1], hr⟩
theorem fdiv_R (hx : rk k x < inf k) (hy : rk k y < inf k) (h0 : rk k y ≠ 0) : ∃ r, fdiv k x y = k.format.word (sgn k.format x ^^ sgn k.format y) r ∧ Rd k.format (Vk k (rk k x) * dn k) (Vk k (rk k y)) r := by
 obtain ⟨r, h, hr⟩ := div_R (okF k) hx hy h0
 exact ⟨r, by rw [fdiv, h, fin, canon_word hr.1], hr⟩
theorem fadd_R (hx : rk k x < inf k) (hy : rk k y < inf k) : ∃ r u, fadd k x y = k.format.word u r ∧ Rd k.format (sv k x + sv k y).natAbs 1 r ∧ (sgn k.format x = false → sgn k.format y = false → u = false) := by
 obtain ⟨m, i, h1, h2, h3, _⟩ := read_fin hx
 obtain ⟨n, j, h4, h5, h6, _⟩ := read_fin hy
 obtain ⟨r, u, h, hr, hu⟩ := sum_R (okF k) (x := rk k x) (y := rk k y) (sgn k.format x) (sgn k.format y) h2 h3 h5 h6
 refine ⟨r, u, ?_, hr, hu⟩
 rw [fadd, Format.add, h1, h4, h, fin, canon_word hr.1]
theorem fsub_R (hx : rk k x < inf k) (hy : rk k y < inf k) : ∃ r u, fsub k x y = k.format.word u r ∧ Rd k.format (sv k x - sv k y).natAbs 1 r := by
 obtain ⟨m, i, h1, h2, h3, _⟩ := read_fin hx
 obtain ⟨n, j, h4, h5, h6, _⟩ := read_fin hy
 obtain ⟨r, u, h, hr, hu⟩ := sum_R (okF k) (x := rk k x) (y := rk k y) (sgn k.format x) (!sgn k.format y) h2 h3 h5 h6
 refine ⟨r, u, ?_, ?_⟩
 ·rw [fsub, Format.sub, h1, h4, Datum.opposite, h, fin, canon_word hr.1]
 ·have e : (if (!sgn k.format y) = true then -(V k.format (rk k y) : Int) else V k.format (rk k y)) = - sv k y := by
   unfold sv
   cases sgn k.format y <;> simp
  rw [e] at hr;rw [Int.sub_eq_add_neg];exact hr
theorem rk_word {s : Bool} {r : Nat} (h : r ≤ inf k) : rk k (k.format.word s r) = r := word_rg (okF k) h
theorem sgn_word {s : Bool} {r : Nat} (h : r ≤ inf k) : sgn k.format (k.format.word s r) = s := word_sgn (okF k) h
theorem sv_abs (k : FloatKind) (x : Nat) : (sv k x).natAbs = Vk k (rk k x) := by unfold sv; split <;> simp
theorem mg_mul {a b c : Nat} (hx : rk k x ≤ a) (hy : rk k y ≤ b) (h : a < inf k ∧ b < inf k ∧ c ≤ inf k ∧ Vk k a * Vk k b ≤ Vk k c * dn k) : rk k (fmul k x y) ≤ c := by
 obtain ⟨h1, h2, h3, h4⟩ := h
 obtain ⟨r, e, hr⟩ := fmul_R (k := k) (x := x) (y := y) (by omega) (by omega)
 rw [e, rk_word hr.1]
 exact hr.2.1 c h3 (Nat.le_trans (Nat.mul_le_mul (V_mono _ hx) (V_mono _ hy)) h4)
theorem mg_div {a b c : Nat} (hx : rk k x ≤ a) (hy : b ≤ rk k y) (hy1 : rk k y < inf k) (h : a < inf k ∧ 0 < b ∧ c ≤ inf k ∧ Vk k a * dn k ≤ Vk k c * Vk k b) : rk k (fdiv k x y) ≤ c := by
 obtain ⟨h1, h2, h3, h4⟩ := h
 obtain ⟨r, e, hr⟩ := fdiv_R (k := k) (x := x) (y := y) (by omega) hy1 (by omega)
 rw [e, rk_word hr.1]
 exact hr.2.1 c h3 (Nat.le_trans (Nat.mul_le_mul_right _ (V_mono _ hx)) (Nat.le_trans h4 (Nat.mul_le_mul_left _ (V_mono _ hy))))
theorem mg_add {a b c : Nat} (hx : rk k x ≤ a) (hy : rk k y ≤ b) (h : a < inf k ∧ b < inf k ∧ c ≤ inf k ∧ Vk k a + Vk k b ≤ Vk k c) : rk k (fadd k x y) ≤ c := by
 obtain ⟨h1, h2, h3, h4⟩ := h
 obtain ⟨r, u, e, hr, _⟩ := fadd_R (k := k) (x := x) (y := y) (by omega) (by omega)
 rw [e, rk_word hr.1]
 refine hr.2.1 c h3 ?_
 have h5 := sv_abs k x
 have h6 := sv_abs k y
 have h7 := V_mono k.format hx
 have h8 := V_mono k.format hy
 simp only [Vk] at *
 omega
theorem mg_sub {a b c : Nat} (hx : rk k x ≤ a) (hy : rk k y ≤ b) (h : a < inf k ∧ b < inf k ∧ c ≤ inf k ∧ Vk k a + Vk k b ≤ Vk k c) : rk k (fsub k x y) ≤ c := by
 obtain ⟨h1, h2, h3, h4⟩ := h
 obtain ⟨r, u, e, hr⟩ := fsub_R (k := k) (x := x) (y := y) (by omega) (by omega)
 rw [e, rk_word hr.1]
 refine hr.2.1 c h3 ?_
 have h5 := sv_abs k x
 have h6 := sv_abs k y
 have h7 := V_mono k.format hx
 have h8 := V_mono k.format hy
 simp only [Vk] at *
 omega
theorem order_R (hx : rk k x < inf k) (hy : rk k y < inf k) : k.format.order x y = some (compare (sv k x) (sv k y)) := by
 obtain ⟨m, i, h1, h2, h3, _⟩ := read_fin hx
 obtain ⟨n, j, h4, h5, h6, _⟩ := read_fin hy
 rw [Format.order, h1, h4, Datum.order]
 simp only [Option.some.injEq]
 have p1 := pow_split (show k.format.leastPlace ≤ min i j by omega) (show min i j ≤ i by omega)
 have p2 := pow_split (show k.format.leastPlace ≤ min i j by omega) (show min i j ≤ j by omega)
 have hw : (0 : Int) < ((2 ^ (min i j - k.format.leastPlace).toNat : Nat) : Int) := by have := Nat.two_pow_pos (min i j - k.format.leastPlace).toNat;omega
 have e1 : sv k x = signed (sgn k.format x) m (i - min i j).toNat * ((2 ^ (min i j - k.format.leastPlace).toNat : Nat) : Int) := by unfold sv Vk rk;rw [← h3, p1, signed_abs, ← Nat.mul_assoc];split <;> simp [Int.neg_mul]
 have e2 : sv k y = signed (sgn k.format y) n (j - min i j).toNat * ((2 ^ (min i j - k.format.leastPlace).toNat : Nat) : Int) := by unfold sv Vk rk;rw [← h6, p2, signed_abs, ← Nat.mul_assoc];split <;> simp [Int.neg_mul]
 rw [e1, e2]
 generalize signed (sgn k.format x) m (i - min i j).toNat = a
 generalize signed (sgn k.format y) n (j - min i j).toNat = b
 generalize ((2 ^ (min i j - k.format.leastPlace).toNat : Nat) : Int) = w at hw
 simp only [compare, compareOfLessAndEq]
 have c1 : a < b ↔ a * w < b * w := (Int.mul_lt_mul_right hw).symm
 have c2 : a = b ↔ a * w = b * w := ⟨fun h => by rw [h], fun h => Int.eq_of_mul_eq_mul_right (by omega) h⟩
 by_cases h : a < b
 ·rw [if_pos h, if_pos (c1.1 h)]
 ·rw [if_neg h, if_neg (fun h' => h (c1.2 h'))]
  by_cases h' : a = b
  ·rw [if_pos h', if_pos (c2.1 h')]
  ·rw [if_neg h', if_neg (fun h'' => h' (c2.2 h''))]
theorem flt_R (hx : rk k x < inf k) (hy : rk k y < inf k) : flt k x y = decide (sv k x < sv k y) := by
 rw [flt, order_R hx hy]
 simp only [compare, compareOfLessAndEq]
 by_cases h : sv k x < sv k y
 ·simp [h]
 ·by_cases h' : sv k x = sv k y <;> simp [h, h']
theorem fgt_R (hx : rk k x < inf k) (hy : rk k y < inf k) : fgt k x y = decide (sv k y < sv k x) := by
 rw [fgt, order_R hx hy]
 simp only [compare, compareOfLessAndEq]
 by_cases h : sv k x < sv k y
 ·simp [h]; omega
 ·by_cases h' : sv k x = sv k y
  ·simp [h']
  ·simp [h, h']; omega
end Vs
