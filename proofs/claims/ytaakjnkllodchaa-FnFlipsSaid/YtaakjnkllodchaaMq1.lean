/-
  What is taken from one float another way round is its opposite: its square is the same.
-/
import Derived.Test.YtaakjnkllodchaaMf4
set_option maxHeartbeats 4000000
namespace Vs
open Go Ieee
theorem read_wrd {f : Format} (hf : FOk f) {s : Bool} {r : Nat} (h : r ≤ f.infRung) : f.read (f.word s r) =
  if r < f.binade then .number s r f.leastPlace else if r < f.infRung then .number s (f.binade + r % f.binade) (f.leastPlace + (r / f.binade - 1 : Nat)) else .infinity s := by
 have h1 := word_rg hf (s := s) h
 have h2 := word_sgn hf (s := s) h
 unfold rg at h1
 unfold sgn at h2
 unfold Format.read
 simp only [h1, h2]
 split
 ·rfl
 ·split
  ·rfl
  ·rw [if_pos (by omega)]
theorem sq_word {f : Format} (hf : FOk f) {s s' : Bool} {r : Nat} (h : r ≤ f.infRung) : f.mul (f.word s r) (f.word s r) = f.mul (f.word s' r) (f.word s' r) := by
 unfold Format.mul
 rw [read_wrd hf h, read_wrd hf h]
 split
 ·simp [Datum.product]
 ·split
  ·simp [Datum.product]
  ·simp [Datum.product]
theorem nearest_word {f : Format} (m : Nat) (e : Int) : ∃ r, r ≤ f.infRung ∧ ∀ s, f.nearest s m e = f.word s r := by
 unfold Format.nearest
 by_cases h : m = 0
 ·exact ⟨0, Nat.zero_le _, fun s => by rw [if_pos h]⟩
 ·refine ⟨min ((max (e + m.log2 - f.fractionBits) f.leastPlace - f.leastPlace).toNat * f.binade + Toward.even.cut false (m <<< (e - max (e + m.log2 - f.fractionBits) f.leastPlace).toNat) (max (e + m.log2 - f.fractionBits) f.leastPlace - e).toNat) f.infRung, Nat.min_le_right _ _, fun s => ?_⟩
  rw [if_neg h];rfl
theorem signed_neg (s : Bool) (m k : Nat) : signed (!s) m k = - signed s m k := by
 unfold signed
 cases s <;> simp
theorem sub_swap {k : FloatKind} (x y : Nat) : (∃ s s' r, r ≤ k.format.infRung ∧ fsub k x y = k.format.word s r ∧ fsub k y x = k.format.word s' r) ∨ (fsub k x y = fnan k ∧ fsub k y x = fnan k) := by
 unfold fsub Format.sub
 generalize k.format.read x = X
 generalize k.format.read y = Y
 have hw : ∀ {s : Bool} {r : Nat}, r ≤ k.format.infRung → canon k (k.format.word s r) = k.format.word s r := fun h => canon_word h
 cases X with
 | nan _ _ => right; cases Y <;> exact ⟨rfl, rfl⟩
 | infinity s =>
  cases Y with
  | nan _ _ => right; exact ⟨rfl, rfl⟩
  | infinity t =>
   cases s <;> cases t
   ·right; exact ⟨rfl, rfl⟩
   ·left; exact ⟨false, true, k.format.infRung, Nat.le_refl _, hw (Nat.le_refl _), hw (Nat.le_refl _)⟩
   ·left; exact ⟨true, false, k.format.infRung, Nat.le_refl _, hw (Nat.le_refl _), hw (Nat.le_refl _)⟩
   ·right; exact ⟨rfl, rfl⟩
  | number t n j => left; exact ⟨s, !s, k.format.infRung, Nat.le_refl _, hw (Nat.le_refl _), hw (Nat.le_refl _)⟩
 | number s m i =>
  cases Y with
  | nan _ _ => right; exact ⟨rfl, rfl⟩
  | infinity t => left; exact ⟨!t, t, k.format.infRung, Nat.le_refl _, hw (Nat.le_refl _), hw (Nat.le_refl _)⟩
  | number t n j =>
   left
   simp only [Datum.opposite, Datum.sum, Option.map_some, fin, Format.write, signed_neg];rw [Int.min_comm j i];have e : (signed t n (j - min i j).toNat + -signed s m (i - min i j).toNat).natAbs = (signed s m (i - min i j).toNat + -signed t n (j - min i j).toNat).natAbs := by omega
   rw [e];obtain ⟨r, hr, hs⟩ := nearest_word (f := k.format) (signed s m (i - min i j).toNat + -signed t n (j - min i j).toNat).natAbs (min i j);rw [hs, hs, hw hr, hw hr];exact ⟨_, _, r, hr, rfl, rfl⟩
theorem sq_swap {k : FloatKind} (x y : Nat) : fmul k (fsub k x y) (fsub k x y) = fmul k (fsub k y x) (fsub k y x) := by
 rcases sub_swap (k := k) x y with ⟨s, s', r, hr, e1, e2⟩ | ⟨e1, e2⟩
 ·rw [e1, e2]
  unfold fmul;rw [sq_word (okF k) (s' := s') hr]
 ·rw [e1, e2]
end Vs
