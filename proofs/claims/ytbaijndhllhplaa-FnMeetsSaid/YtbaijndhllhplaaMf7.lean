/-
  Operations on floats written for the kernel: on natural numbers alone, equal to the kit's.
-/
import Derived.Test.YtbaijndhllhplaaMf5
set_option maxHeartbeats 4000000
namespace Vs
open Go Ieee
def kP : FloatKind → Nat | .f32 => 8388608 | .f64 => 4503599627370496
def kInfW : FloatKind → Nat | .f32 => 2139095040 | .f64 => 9218868437227405312
def kS : FloatKind → Nat | .f32 => 2147483648 | .f64 => 9223372036854775808
def kFr : FloatKind → Nat | .f32 => 23 | .f64 => 52
def kZ : FloatKind → Nat | .f32 => 149 | .f64 => 1074
theorem kP_eq (k : FloatKind) : k.format.binade = kP k := by cases k <;> decide
theorem kI_eq (k : FloatKind) : k.format.infRung = kInfW k := by cases k <;> decide
theorem kS_eq (k : FloatKind) : k.format.signWeight = kS k := by cases k <;> decide
theorem kFr_eq (k : FloatKind) : k.format.fractionBits = kFr k := by cases k <;> decide
theorem kZ_eq (k : FloatKind) : k.format.leastPlace = -(kZ k : Int) := by cases k <;> decide
theorem bleT {a b : Nat} (h : a ≤ b) : Nat.ble a b = true := by rw [Nat.ble_eq]; exact h
theorem ofBle {a b : Nat} (h : Nat.ble a b = true) : a ≤ b := by rw [Nat.ble_eq] at h; exact h
def rndF (n d : Nat) : Nat :=
 (fun g => Nat.add (Nat.div n g) (bif Nat.ble (Nat.succ g) (Nat.mul 2 (Nat.mod n g)) then 1 else bif Nat.beq g (Nat.mul 2 (Nat.mod n g)) then Nat.mod (Nat.div n g) 2 else 0)) (Nat.pow 2 d)
theorem rndF_eq (n d : Nat) : rndF n d = rnd n d := by
 show n / 2 ^ d + _ = n / 2 ^ d + _
 congr 1
 show (bif Nat.ble (2 ^ d + 1) (2 * (n % 2 ^ d)) then 1 else bif Nat.beq (2 ^ d) (2 * (n % 2 ^ d)) then n / 2 ^ d % 2 else 0) = _
 have hm := Nat.mod_lt (n / 2 ^ d) (show 0 < 2 by decide)
 generalize 2 ^ d = g at *
 generalize 2 * (n % g) = r at *
 generalize n / g = q at *
 by_cases h1 : g < r
 ·have a : Nat.ble (g + 1) r = true := bleT h1
  rw [a];simp [h1]
 ·have a : Nat.ble (g + 1) r = false := by rw [← Bool.not_eq_true, Nat.ble_eq]; exact h1
  rw [a, cond_false]
  by_cases h2 : g = r
  ·subst h2
   have b : Nat.beq g g = true := Nat.beq_refl g;rw [b, cond_true]
   rcases (show q % 2 = 0 ∨ q % 2 = 1 by omega) with h | h <;> simp [h]
  ·have b : Nat.beq g r = false := by rw [← Bool.not_eq_true, Nat.beq_eq]; exact h2
   have c : (g == r) = false := by simpa using h2
   rw [b, cond_false, c];simp [h1]
def lgF (h m : Nat) : Nat :=
 (fun d => bif Nat.ble d 1 then (bif Nat.beq d 1 then h else Nat.log2 m) else bif Nat.ble d 3 then Nat.add h 1 else bif Nat.ble d 7 then Nat.add h 2 else Nat.log2 m) (Nat.div m (Nat.pow 2 h))
theorem lg_of {m h c : Nat} (h1 : 2 ^ c ≤ m / 2 ^ h) (h2 : m / 2 ^ h < 2 ^ (c + 1)) : h + c = Nat.log2 m := by
 have hp := Nat.two_pow_pos h
 have a : 2 ^ (h + c) ≤ m := by rw [Nat.pow_add, Nat.mul_comm];exact (Nat.le_div_iff_mul_le hp).1 h1
 have b : m < 2 ^ (h + c + 1) := by rw [Nat.add_assoc, Nat.pow_add, Nat.mul_comm];exact (Nat.div_lt_iff_lt_mul hp).1 h2
 have hm : m ≠ 0 := by have := Nat.two_pow_pos (h + c);omega
 exact ((Nat.log2_eq_iff hm).2 ⟨a, b⟩).symm
theorem lgF_eq (h m : Nat) : lgF h m = Nat.log2 m := by
 show (bif Nat.ble (m / 2 ^ h) 1 then (bif Nat.beq (m / 2 ^ h) 1 then h else Nat.log2 m) else bif Nat.ble (m / 2 ^ h) 3 then h + 1 else bif Nat.ble (m / 2 ^ h) 7 then h + 2 else Nat.log2 m) = _
 cases c1 : Nat.ble (m / 2 ^ h) 1
 ·rw [cond_false]
  rw [← Bool.not_eq_true, Nat.ble_eq] at c1
  cases c2 : Nat.ble (m / 2 ^ h) 3
  ·rw [cond_false]
   rw [← Bool.not_eq_true, Nat.ble_eq] at c2
   cases c3 : Nat.ble (m / 2 ^ h) 7
   ·rfl
   ·rw [Nat.ble_eq] at c3
    exact lg_of (by omega) (by omega)
  ·rw [Nat.ble_eq] at c2
   exact lg_of (by omega) (by omega)
 ·rw [cond_true]
  cases c2 : Nat.beq (m / 2 ^ h) 1
  ·rfl
  ·rw [Nat.beq_eq] at c2
   exact lg_of (c := 0) (by omega) (by omega)
def nearF (h fr inf m a b : Nat) : Nat :=
  bif Nat.beq m 0 then 0 else
  (fun L => (fun r => bif Nat.ble r inf then r else inf)
    (bif Nat.ble (Nat.add b fr) (Nat.add a L) then
      Nat.add (Nat.mul (Nat.sub (Nat.add a L) (Nat.add b fr)) (Nat.pow 2 fr)) (bif Nat.ble fr L then rndF m (Nat.sub L fr) else Nat.mul m (Nat.pow 2 (Nat.sub fr L)))
     else bif Nat.ble b a then Nat.mul m (Nat.pow 2 (Nat.sub a b)) else rndF m (Nat.sub b a))) (lgF h m)
theorem near_eq (f : Format) (s : Bool) (m a b h : Nat) : f.nearest s m (f.leastPlace + a - b) = f.word s (nearF h f.fractionBits f.infRung m a b) := by
 unfold Format.nearest nearF
 rw [lgF_eq]
 by_cases h0 : m = 0
 ·subst h0
  rfl
 have hb : Nat.beq m 0 = false := by rw [← Bool.not_eq_true, Nat.beq_eq]; exact h0
 rw [if_neg h0, hb, cond_false]
 simp only [cut_rnd, Nat.shiftLeft_eq]
 congr 1
 show min _ f.infRung = (bif Nat.ble _ f.infRung then _ else f.infRung)
 have key : ∀ x y z : Nat, x = y → min x z = (bif Nat.ble y z then y else z) := by
  intro x y z h;subst h
  by_cases h : x ≤ z
  ·rw [Nat.min_eq_left h, bleT h]
   rfl
  ·rw [Nat.min_eq_right (by omega), show Nat.ble x z = false by rw [← Bool.not_eq_true, Nat.ble_eq]; exact h]
   rfl
 refine key _ _ _ ?_
 generalize m.log2 = L
 have hP : f.binade = 2 ^ f.fractionBits := rfl
 by_cases h1 : b + f.fractionBits ≤ a + L
 ·have c1 : Nat.ble (Nat.add b f.fractionBits) (Nat.add a L) = true := bleT h1
  rw [c1, cond_true];have e1 : max (f.leastPlace + a - b + (L : Int) - f.fractionBits) f.leastPlace = f.leastPlace + a - b + (L : Int) - f.fractionBits := by omega
  rw [e1, hP];show _ = (a + L - (b + f.fractionBits)) * 2 ^ f.fractionBits + _
  congr 1
  ·congr 1
   omega
  ·by_cases h2 : f.fractionBits ≤ L
   ·have c2 : Nat.ble f.fractionBits L = true := bleT h2
    rw [c2, cond_true, rndF_eq];have a1 : (f.leastPlace + a - b - (f.leastPlace + a - b + (L : Int) - f.fractionBits)).toNat = 0 := by omega
    have a2 : (f.leastPlace + a - b + (L : Int) - f.fractionBits - (f.leastPlace + a - b)).toNat = L - f.fractionBits := by omega
    rw [a1, a2, Nat.pow_zero, Nat.mul_one];rfl
   ·have c2 : Nat.ble f.fractionBits L = false := by rw [← Bool.not_eq_true, Nat.ble_eq]; exact h2
    rw [c2, cond_false];have a1 : (f.leastPlace + a - b - (f.leastPlace + a - b + (L : Int) - f.fractionBits)).toNat = f.fractionBits - L := by omega
    have a2 : (f.leastPlace + a - b + (L : Int) - f.fractionBits - (f.leastPlace + a - b)).toNat = 0 := by omega
    rw [a1, a2, rnd_zero];rfl
 ·have c1 : Nat.ble (Nat.add b f.fractionBits) (Nat.add a L) = false := by rw [← Bool.not_eq_true, Nat.ble_eq]; exact h1
  rw [c1, cond_false];have e1 : max (f.leastPlace + a - b + (L : Int) - f.fractionBits) f.leastPlace = f.leastPlace := by omega
  rw [e1];have a0 : (f.leastPlace - f.leastPlace).toNat = 0 := by omega
  rw [a0, Nat.zero_mul, Nat.zero_add]
  by_cases h2 : b ≤ a
  ·have c2 : Nat.ble b a = true := bleT h2
   rw [c2, cond_true];have a1 : (f.leastPlace + a - b - f.leastPlace).toNat = a - b := by omega
   have a2 : (f.leastPlace - (f.leastPlace + a - b)).toNat = 0 := by omega
   rw [a1, a2, rnd_zero];rfl
  ·have c2 : Nat.ble b a = false := by rw [← Bool.not_eq_true, Nat.ble_eq]; exact h2
   rw [c2, cond_false, rndF_eq];have a1 : (f.leastPlace + a - b - f.leastPlace).toNat = 0 := by omega
   have a2 : (f.leastPlace - (f.leastPlace + a - b)).toNat = b - a := by omega
   rw [a1, a2, Nat.pow_zero, Nat.mul_one];rfl
theorem nearF_le (h fr inf m a b : Nat) : nearF h fr inf m a b ≤ inf := by
 unfold nearF
 cases Nat.beq m 0
 ·rw [cond_false]
  generalize lgF h m = L;show (bif Nat.ble _ inf then _ else inf) ≤ inf
  generalize (bif Nat.ble (Nat.add b fr) (Nat.add a L) then _ else _) = r
  cases h : Nat.ble r inf
  ·exact Nat.le_refl _
  ·exact ofBle h
 ·exact Nat.zero_le _
def magF (P r : Nat) : Nat := bif Nat.ble P r then Nat.add P (Nat.mod r P) else r
def expF (P r : Nat) : Nat := Nat.sub (Nat.div r P) 1
theorem read_fast {f : Format} {x : Nat} (h : rg f x < f.infRung) : f.read x = .number (sgn f x) (magF f.binade (rg f x)) (f.leastPlace + (expF f.binade (rg f x) : Nat)) := by
 unfold rg at h
 unfold Format.read rg sgn
 simp only
 have hb := binade_pos f
 by_cases h1 : x % f.signWeight < f.binade
 ·rw [if_pos h1]
  have c : Nat.ble f.binade (x % f.signWeight) = false := by rw [← Bool.not_eq_true, Nat.ble_eq]; omega
  unfold magF expF;rw [c, cond_false, show Nat.div (x % f.signWeight) f.binade = 0 from Nat.div_eq_of_lt h1]
  simp
 ·rw [if_neg h1, if_pos h]
  have c : Nat.ble f.binade (x % f.signWeight) = true := by rw [Nat.ble_eq]; omega
  unfold magF expF;rw [c, cond_true];rfl
def sgW (k : FloatKind) (x : Nat) : Bool := Nat.beq (Nat.mod (Nat.div x (kS k)) 2) 1
theorem sgW_eq (k : FloatKind) (x : Nat) : sgW k x = sgn k.format x := by
 unfold sgW sgn
 rw [kS_eq, Bool.eq_iff_iff, beq_iff_eq, Nat.beq_eq]
 exact Iff.rfl
def wordF (k : FloatKind) (s : Bool) (r : Nat) : Nat := bif s then Nat.add (kS k) r else r
theorem wordF_eq (k : FloatKind) (s : Bool) (r : Nat) : wordF k s r = k.format.word s r := by
 unfold wordF Format.word
 rw [kS_eq]
 cases s <;> rfl
theorem fin_near (k : FloatKind) (s : Bool) (m a b h : Nat) : fin k ((some (Datum.number s m (k.format.leastPlace + a - b))).map k.format.write) = wordF k s (nearF h (kFr k) (kInfW k) m a b) := by
 show canon k (k.format.nearest s m (k.format.leastPlace + a - b)) = _
 rw [near_eq, wordF_eq, kFr_eq, kI_eq]
 exact canon_word (by rw [kI_eq]; exact nearF_le _ _ _ _ _ _)
def finF (k : FloatKind) (u v : Nat) : Bool := bif Nat.ble (kInfW k) u then false else bif Nat.ble (kInfW k) v then false else true
theorem finF_inv {k : FloatKind} {x y : Nat} (h : finF k (Nat.mod x (kS k)) (Nat.mod y (kS k)) = true) : rg k.format x < k.format.infRung ∧ rg k.format y < k.format.infRung := by
 unfold finF at h
 cases h1 : Nat.ble (kInfW k) (Nat.mod x (kS k)) with
 | true => rw [h1] at h; cases h
 | false =>
  cases h2 : Nat.ble (kInfW k) (Nat.mod y (kS k)) with
  | true => rw [h1, h2] at h; cases h
  | false =>
   rw [← Bool.not_eq_true, Nat.ble_eq] at h1 h2;unfold rg;rw [kI_eq, kS_eq];exact ⟨Nat.lt_of_not_le h1, Nat.lt_of_not_le h2⟩
def fmulF (k : FloatKind) (x y : Nat) : Nat :=
 (fun u v => bif finF k u v then wordF k (xor (sgW k x) (sgW k y)) (nearF (Nat.add (kFr k) (kFr k)) (kFr k) (kInfW k) (Nat.mul (magF (kP k) u) (magF (kP k) v)) (Nat.add (expF (kP k) u) (expF (kP k) v)) (kZ k)) else fmul k x y) (Nat.mod x (kS k)) (Nat.mod y (kS k))
theorem fmulF_eq (k : FloatKind) (x y : Nat) : fmulF k x y = fmul k x y := by
 unfold fmulF
 simp only
 cases h : finF k (Nat.mod x (kS k)) (Nat.mod y (kS k))
 ·rfl
 rw [cond_true]
 obtain ⟨hx, hy⟩ := finF_inv h
 rw [fmul, Format.mul, read_fast hx, read_fast hy, Datum.product, sgW_eq, sgW_eq, ← fin_near]
 rw [show (k.format.leastPlace + (expF k.format.binade (rg k.format x) : Nat) + (k.format.leastPlace + (expF k.format.binade (rg k.format y) : Nat)) : Int) = k.format.leastPlace + ((Nat.add (expF (kP k) (Nat.mod x (kS k))) (expF (kP k) (Nat.mod y (kS k))) : Nat) : Int) - (kZ k : Nat) from ?_]
 ·unfold rg
  rw [kP_eq, kS_eq];rfl
 ·unfold rg
  rw [kP_eq, kS_eq, kZ_eq];show _ = -(kZ k : Int) + ((expF (kP k) (x % kS k) + expF (kP k) (y % kS k) : Nat) : Int) - (kZ k : Int);omega
def sumF (k : FloatKind) (s t : Bool) (m n E I : Nat) : Nat :=
 (fun b => (fun h => (fun A B =>
  bif xor s t then (bif Nat.ble A B then (bif Nat.beq A B then 0 else wordF k t (nearF h (kFr k) (kInfW k) (Nat.sub B A) b 0)) else wordF k s (nearF h (kFr k) (kInfW k) (Nat.sub A B) b 0))
  else wordF k s (nearF h (kFr k) (kInfW k) (Nat.add A B) b 0))
  (Nat.mul m (Nat.pow 2 (Nat.sub E b))) (Nat.mul n (Nat.pow 2 (Nat.sub I b)))) (Nat.sub (Nat.add (kFr k) (Nat.sub (Nat.add E I) (Nat.add b b))) 1)) (bif Nat.ble E I then E else I)
theorem sumF_eq (k : FloatKind) (s t : Bool) (m n E I : Nat) : fin k ((Datum.sum (.number s m (k.format.leastPlace + (E : Nat))) (.number t n (k.format.leastPlace + (I : Nat)))).map k.format.write) = sumF k s t m n E I := by
 have hb : (bif Nat.ble E I then E else I) = min E I := by
  by_cases h : E ≤ I
  ·rw [Nat.min_eq_left h, bleT h]; rfl
  ·rw [Nat.min_eq_right (by omega), show Nat.ble E I = false by rw [← Bool.not_eq_true, Nat.ble_eq]; exact h]; rfl
 unfold sumF
 simp only [hb]
 have hm : min (k.format.leastPlace + (E : Int)) (k.format.leastPlace + (I : Int)) = k.format.leastPlace + ((min E I : Nat) : Int) := by omega
 unfold Datum.sum
 simp only [hm]
 have e1 : (k.format.leastPlace + (E : Int) - (k.format.leastPlace + ((min E I : Nat) : Int))).toNat = E - min E I := by omega
 have e2 : (k.format.leastPlace + (I : Int) - (k.format.leastPlace + ((min E I : Nat) : Int))).toNat = I - min E I := by omega
 rw [e1, e2, signed_abs, signed_abs]
 generalize Nat.sub (Nat.add (kFr k) (Nat.sub (Nat.add E I) (Nat.add (min E I) (min E I)))) 1 = h
 show _ = (bif xor s t then (bif Nat.ble (m * 2 ^ (E - min E I)) (n * 2 ^ (I - min E I)) then (bif Nat.beq (m * 2 ^ (E - min E I)) (n * 2 ^ (I - min E I)) then 0 else wordF k t (nearF h (kFr k) (kInfW k) (n * 2 ^ (I - min E I) - m * 2 ^ (E - min E I)) (min E I) 0)) else wordF k s (nearF h (kFr k) (kInfW k) (m * 2 ^ (E - min E I) - n * 2 ^ (I - min E I)) (min E I) 0))
  else wordF k s (nearF h (kFr k) (kInfW k) (m * 2 ^ (E - min E I) + n * 2 ^ (I - min E I)) (min E I) 0))
 generalize m * 2 ^ (E - min E I) = A
 generalize n * 2 ^ (I - min E I) = B
 generalize min E I = b
 have fn : ∀ (u : Bool) (N : Nat), fin k ((some (Datum.number u N (k.format.leastPlace + (b : Nat)))).map k.format.write) = wordF k u (nearF h (kFr k) (kInfW k) N b 0) := by intro u N;have := fin_near k u N b 0 h;simpa using this
 cases s <;> cases t <;> simp only [Bool.false_eq_true, if_true, if_false, Bool.xor_false, Bool.xor_true, Bool.not_false, Bool.xor_self, cond_true, cond_false]
 ·rw [show ((A : Int) + B).natAbs = A + B by omega, ← fn]
  congr 4
  split
  ·rfl
  ·simp; omega
 ·by_cases h : A ≤ B
  ·rw [bleT h, cond_true]
   by_cases h2 : A = B
   ·subst h2
    rw [show Nat.beq A A = true from Nat.beq_refl A, cond_true]
    rw [show ((A : Int) + -A) = 0 by omega, fn]
    rfl
   ·rw [show Nat.beq A B = false by rw [← Bool.not_eq_true, Nat.beq_eq]; exact h2, cond_false]
    rw [show ((A : Int) + -B).natAbs = B - A by omega, ← fn]
    congr 4
    rw [if_neg (by omega)]
    simp; omega
  ·rw [show Nat.ble A B = false by rw [← Bool.not_eq_true, Nat.ble_eq]; exact h, cond_false]
   rw [show ((A : Int) + -B).natAbs = A - B by omega, ← fn]
   congr 4
   rw [if_neg (by omega)]
   simp; omega
 ·by_cases h : A ≤ B
  ·rw [bleT h, cond_true]
   by_cases h2 : A = B
   ·subst h2
    rw [show Nat.beq A A = true from Nat.beq_refl A, cond_true]
    rw [show (-(A : Int) + A) = 0 by omega, fn]
    rfl
   ·rw [show Nat.beq A B = false by rw [← Bool.not_eq_true, Nat.beq_eq]; exact h2, cond_false]
    rw [show (-(A : Int) + B).natAbs = B - A by omega, ← fn]
    congr 4
    rw [if_neg (by omega)]
    simp; omega
  ·rw [show Nat.ble A B = false by rw [← Bool.not_eq_true, Nat.ble_eq]; exact h, cond_false]
   rw [show (-(A : Int) + B).natAbs = A - B by omega, ← fn]
   congr 4
   rw [if_neg (by omega)]
   simp; omega
 ·rw [show (-(A : Int) + -B).natAbs = A + B by omega, ← fn]
  congr 4
  split
  ·rfl
  ·simp; omega
def faddF (k : FloatKind) (x y : Nat) : Nat :=
 (fun u v => bif finF k u v then sumF k (sgW k x) (sgW k y) (magF (kP k) u) (magF (kP k) v) (expF (kP k) u) (expF (kP k) v) else fadd k x y) (Nat.mod x (kS k)) (Nat.mod y (kS k))
theorem faddF_eq (k : FloatKind) (x y : Nat) : faddF k x y = fadd k x y := by
 unfold faddF
 simp only
 cases h : finF k (Nat.mod x (kS k)) (Nat.mod y (kS k))
 ·rfl
 rw [cond_true]
 obtain ⟨hx, hy⟩ := finF_inv h
 rw [fadd, Format.add, read_fast hx, read_fast hy, sumF_eq, sgW_eq, sgW_eq]
 unfold rg
 rw [kP_eq, kS_eq]
 rfl
def fsubF (k : FloatKind) (x y : Nat) : Nat :=
 (fun u v => bif finF k u v then sumF k (sgW k x) (not (sgW k y)) (magF (kP k) u) (magF (kP k) v) (expF (kP k) u) (expF (kP k) v) else fsub k x y) (Nat.mod x (kS k)) (Nat.mod y (kS k))
theorem fsubF_eq (k : FloatKind) (x y : Nat) : fsubF k x y = fsub k x y := by
 unfold fsubF
 simp only
 cases h : finF k (Nat.mod x (kS k)) (Nat.mod y (kS k))
 ·rfl
 rw [cond_true]
 obtain ⟨hx, hy⟩ := finF_inv h
 rw [fsub, Format.sub, read_fast hx, read_fast hy, Datum.opposite, sumF_eq, sgW_eq, sgW_eq]
 unfold rg
 rw [kP_eq, kS_eq]
 rfl
def fdivF (k : FloatKind) (x y : Nat) : Nat :=
  (fun u v => bif finF k u v then
    (fun m n => bif Nat.beq n 0 then fdiv k x y else
      (fun more => (fun d => wordF k (xor (sgW k x) (sgW k y)) (nearF (Nat.add (kFr k) 2) (kFr k) (kInfW k) (Nat.add (Nat.mul 2 (Nat.div d n)) (bif Nat.beq (Nat.mod d n) 0 then 0 else 1)) (Nat.add (expF (kP k) u) (kZ k)) (Nat.add (expF (kP k) v) (Nat.add more 1))))
        (Nat.mul m (Nat.pow 2 more))) (Nat.sub (Nat.add (Nat.add (kFr k) 2) (lgF (kFr k) n)) (lgF (kFr k) m))) (magF (kP k) u) (magF (kP k) v)
   else fdiv k x y) (Nat.mod x (kS k)) (Nat.mod y (kS k))
theorem fdivF_eq (k : FloatKind) (x y : Nat) : fdivF k x y = fdiv k x y := by
 unfold fdivF
 simp only
 cases h : finF k (Nat.mod x (kS k)) (Nat.mod y (kS k))
 ·rfl
 rw [cond_true]
 obtain ⟨hx, hy⟩ := finF_inv h
 have ex : rg k.format x = Nat.mod x (kS k) := by unfold rg; rw [kS_eq]; rfl
 have ey : rg k.format y = Nat.mod y (kS k) := by unfold rg; rw [kS_eq]; rfl
 generalize hm : magF (kP k) (Nat.mod x (kS k)) = m
 generalize hn : magF (kP k) (Nat.mod y (kS k)) = n
 by_cases h0 : n = 0
 ·subst h0
  rfl
 rw [show Nat.beq n 0 = false by rw [← Bool.not_eq_true, Nat.beq_eq]; exact h0, cond_false]
 rw [fdiv, Format.div, read_fast hx, read_fast hy, ex, ey, kP_eq, hm, hn, Datum.quotient]
 simp only
 rw [if_neg h0, sgW_eq, sgW_eq, ← fin_near, kFr_eq, lgF_eq, lgF_eq]
 simp only [Nat.shiftLeft_eq]
 have hc : ∀ z : Nat, (z != 0).toNat = (bif Nat.beq z 0 then 0 else 1) := by
  intro z
  cases z <;> rfl
 rw [hc]
 have hp : ∀ E J M : Nat, (k.format.leastPlace + (E : Int) - (k.format.leastPlace + (J : Int)) - (M : Int) - 1) = k.format.leastPlace + ((E + kZ k : Nat) : Int) - ((J + (M + 1) : Nat) : Int) := by intro E J M;rw [kZ_eq];omega
 rw [hp]
 rfl
def ltF (k : FloatKind) (x y : Nat) : Bool :=
 (fun u v => bif sgW k x then (bif sgW k y then Nat.ble (Nat.succ v) u else Nat.ble 1 (Nat.add u v)) else (bif sgW k y then false else Nat.ble (Nat.succ u) v)) (Nat.mod x (kS k)) (Nat.mod y (kS k))
theorem V_lt {f : Format} {r s : Nat} : V f r < V f s ↔ r < s := ⟨fun h => Nat.lt_of_not_le fun h2 => Nat.lt_irrefl _ (Nat.lt_of_lt_of_le h (V_mono f h2)), fun h => V_strict f h⟩
theorem ltCore (s t : Bool) {A B a b : Nat} (hl : A < B ↔ a < b) (hr : B < A ↔ b < a) (zx : 0 < A ↔ 0 < a) (zy : 0 < B ↔ 0 < b) :
  (bif s then (bif t then Nat.ble (Nat.succ b) a else Nat.ble 1 (Nat.add a b)) else (bif t then false else Nat.ble (Nat.succ a) b)) = decide ((if s = true then -(A : Int) else A) < (if t = true then -(B : Int) else B)) := by
 cases s <;> cases t <;> simp only [cond_true, cond_false, Bool.false_eq_true, if_true, if_false]
 ·rw [Bool.eq_iff_iff, Nat.ble_eq, decide_eq_true_eq]
  omega
 ·rw [eq_comm, decide_eq_false_iff_not]
  omega
 ·rw [Bool.eq_iff_iff, Nat.ble_eq, decide_eq_true_eq]
  show 1 ≤ a + b ↔ _;omega
 ·rw [Bool.eq_iff_iff, Nat.ble_eq, decide_eq_true_eq]
  omega
theorem ltF_eq {k : FloatKind} (x y : Nat) : ltF k x y = decide (sv k x < sv k y) := by
 have ex : Nat.mod x (kS k) = rk k x := by unfold rk rg; rw [kS_eq]; rfl
 have ey : Nat.mod y (kS k) = rk k y := by unfold rk rg; rw [kS_eq]; rfl
 unfold ltF
 rw [ex, ey, sgW_eq, sgW_eq]
 have zx : V k.format 0 < V k.format (rk k x) ↔ 0 < rk k x := V_lt
 have zy : V k.format 0 < V k.format (rk k y) ↔ 0 < rk k y := V_lt
 rw [V_zero] at zx zy
 exact ltCore _ _ V_lt V_lt zx zy
def fltF (k : FloatKind) (x y : Nat) : Bool := bif finF k (Nat.mod x (kS k)) (Nat.mod y (kS k)) then ltF k x y else flt k x y
theorem fltF_eq (k : FloatKind) (x y : Nat) : fltF k x y = flt k x y := by
 unfold fltF
 cases h : finF k (Nat.mod x (kS k)) (Nat.mod y (kS k))
 ·rfl
 obtain ⟨hx, hy⟩ := finF_inv h
 rw [cond_true, ltF_eq, flt_R hx hy]
def wideF (x : Nat) : Nat :=
 (fun u => bif Nat.ble 2139095040 u then wide x else wordF .f64 (sgW .f32 x) (nearF 23 52 9218868437227405312 (magF 8388608 u) (Nat.add (expF 8388608 u) 925) 0)) (Nat.mod x 2147483648)
def narF (x : Nat) : Option Nat :=
 (fun u => bif Nat.ble 9218868437227405312 u then f2f .f64 .f32 x else
  (fun r => bif Nat.beq r 2139095040 then none else some (wordF .f32 (sgW .f64 x) r)) (nearF 52 23 2139095040 (magF 4503599627370496 u) (expF 4503599627370496 u) 925)) (Nat.mod x 9223372036854775808)
theorem word_isinf {k : FloatKind} {s : Bool} {r : Nat} (h : r ≤ k.format.infRung) : (k.decode (k.format.word s r)).isInfinity = Nat.beq r k.format.infRung := by
 unfold FloatKind.decode Format.read
 have h1 : (k.format.word s r) % k.format.signWeight = r := word_rg (okF k) h
 simp only [h1]
 have hb := infRung_ge k.format (okF k).he
 split
 ·rw [show Nat.beq r k.format.infRung = false by rw [← Bool.not_eq_true, Nat.beq_eq]; omega]
  rfl
 ·split
  ·rw [show Nat.beq r k.format.infRung = false by rw [← Bool.not_eq_true, Nat.beq_eq]; omega]
   rfl
  ·split
   ·rename_i e
    rw [e, show Nat.beq k.format.infRung k.format.infRung = true from Nat.beq_refl _]
    rfl
   ·omega
theorem narF_eq (x : Nat) : narF x = f2f .f64 .f32 x := by
 unfold narF
 simp only
 cases h : Nat.ble 9218868437227405312 (Nat.mod x 9223372036854775808)
 case true => rfl
 rw [cond_false]
 have hx : rg FloatKind.f64.format x < FloatKind.f64.format.infRung := by rw [← Bool.not_eq_true, Nat.ble_eq] at h;unfold rg;rw [kS_eq, kI_eq];exact Nat.lt_of_not_le h
 unfold f2f
 rw [if_neg (by decide), FloatKind.decode, read_fast hx]
 have hp : FloatKind.f64.format.leastPlace + ((expF FloatKind.f64.format.binade (rg FloatKind.f64.format x) : Nat) : Int) = FloatKind.f32.format.leastPlace + ((expF FloatKind.f64.format.binade (rg FloatKind.f64.format x) : Nat) : Int) - (925 : Nat) := by rw [kZ_eq, kZ_eq];show -(1074 : Int) + _ = -(149 : Int) + _ - 925;omega
 have he : FloatKind.f32.encode (.number (sgn FloatKind.f64.format x) (magF FloatKind.f64.format.binade (rg FloatKind.f64.format x)) (FloatKind.f64.format.leastPlace + ((expF FloatKind.f64.format.binade (rg FloatKind.f64.format x) : Nat) : Int))) = FloatKind.f32.format.word (sgW .f64 x) (nearF 52 23 2139095040 (magF 4503599627370496 (Nat.mod x 9223372036854775808)) (expF 4503599627370496 (Nat.mod x 9223372036854775808)) 925) := by rw [hp];refine (near_eq _ _ _ _ _ 52).trans ?_;rw [sgW_eq, kFr_eq, kI_eq, kP_eq];unfold rg;rw [kS_eq];rfl
 simp only [he]
 have hle := nearF_le 52 23 2139095040 (magF 4503599627370496 (Nat.mod x 9223372036854775808)) (expF 4503599627370496 (Nat.mod x 9223372036854775808)) 925
 generalize nearF 52 23 2139095040 (magF 4503599627370496 (Nat.mod x 9223372036854775808)) (expF 4503599627370496 (Nat.mod x 9223372036854775808)) 925 = r at hle
 have hle' : r ≤ FloatKind.f32.format.infRung := by rw [kI_eq]; exact hle
 rw [word_isinf hle', kI_eq, canon_word hle', wordF_eq]
 cases hb : Nat.beq r 2139095040
 ·rw [show Nat.beq r (kInfW .f32) = false from hb]
  rfl
 ·rw [show Nat.beq r (kInfW .f32) = true from hb]
  rfl
theorem wideF_eq (x : Nat) : wideF x = wide x := by
 unfold wideF
 simp only
 cases h : Nat.ble 2139095040 (Nat.mod x 2147483648)
 case true => rfl
 rw [cond_false]
 have hx : rg FloatKind.f32.format x < FloatKind.f32.format.infRung := by rw [← Bool.not_eq_true, Nat.ble_eq] at h;unfold rg;rw [kS_eq, kI_eq];exact Nat.lt_of_not_le h
 have hw := f2f_wide x
 unfold f2f at hw
 rw [if_neg (by decide), FloatKind.decode, read_fast hx] at hw
 have hp : FloatKind.f32.format.leastPlace + ((expF FloatKind.f32.format.binade (rg FloatKind.f32.format x) : Nat) : Int) = FloatKind.f64.format.leastPlace + ((Nat.add (expF FloatKind.f32.format.binade (rg FloatKind.f32.format x)) 925 : Nat) : Int) - (0 : Nat) := by rw [kZ_eq, kZ_eq];show -(149 : Int) + _ = -(1074 : Int) + ((expF FloatKind.f32.format.binade (rg FloatKind.f32.format x) + 925 : Nat) : Int) - 0;omega
 have he : FloatKind.f64.encode (.number (sgn FloatKind.f32.format x) (magF FloatKind.f32.format.binade (rg FloatKind.f32.format x)) (FloatKind.f32.format.leastPlace + ((expF FloatKind.f32.format.binade (rg FloatKind.f32.format x) : Nat) : Int))) = FloatKind.f64.format.word (sgW .f32 x) (nearF 23 52 9218868437227405312 (magF 8388608 (Nat.mod x 2147483648)) (Nat.add (expF 8388608 (Nat.mod x 2147483648)) 925) 0) := by rw [hp];refine (near_eq _ _ _ _ _ 23).trans ?_;rw [sgW_eq, kFr_eq, kI_eq, kP_eq];unfold rg;rw [kS_eq];rfl
 simp only [he] at hw
 have hle := nearF_le 23 52 9218868437227405312 (magF 8388608 (Nat.mod x 2147483648)) (Nat.add (expF 8388608 (Nat.mod x 2147483648)) 925) 0
 generalize nearF 23 52 9218868437227405312 (magF 8388608 (Nat.mod x 2147483648)) (Nat.add (expF 8388608 (Nat.mod x 2147483648)) 925) 0 = r at hle hw
 have hle' : r ≤ FloatKind.f64.format.infRung := by rw [kI_eq]; exact hle
 rw [canon_word hle'] at hw
 split at hw
 ·cases hw
 ·rw [wordF_eq]
  exact Option.some.inj hw
end Vs
