/-
  The model's arithmetic gives what the primitive operations of Vs1 give; a NaN's bits are left open.
-/
import Derived.Test.YtfpmhmngebnphaaNs3
namespace Vs
open Go Go.RowKit

/-- Nothing but the count of draws has turned. -/
structure Quiet (w w' : World) : Prop where
  heap : w'.heap = w.heap
  os : w'.os = w.os
  tape : w'.tape = w.tape
  output : w'.output = w.output

theorem Quiet.refl (w : World) : Quiet w w := ⟨rfl, rfl, rfl, rfl⟩
theorem Quiet.drew (w : World) : Quiet w { w with drawn := w.drawn + 1 } := ⟨rfl, rfl, rfl, rfl⟩

/-! ### Floats -/
theorem isnan_fnan (k : FloatKind) : isnan k (fnan k) = true := by cases k <;> decide

theorem canon_of {k : FloatKind} {x : Nat} (h : isnan k x = false) : canon k x = x := by simp [canon, h]
theorem canon_nan {k : FloatKind} {x : Nat} (h : isnan k x = true) : canon k x = fnan k := by simp [canon, h]
theorem isnan_canon (k : FloatKind) (x : Nat) : isnan k (canon k x) = isnan k x := by
  cases h : isnan k x with
  | true => rw [canon_nan h, isnan_fnan]
  | false => rw [canon_of h, h]
theorem canon_canon (k : FloatKind) (x : Nat) : canon k (canon k x) = canon k x := by
  cases h : isnan k x with
  | true => rw [canon_nan h, canon_nan (isnan_fnan k)]
  | false => rw [canon_of h, canon_of h]

theorem read_nan {k : FloatKind} {x : Nat} (h : isnan k x = true) : ∃ s t, k.format.read x = .nan s t := by
  unfold isnan FloatKind.decode Ieee.Datum.isNaN at h
  split at h
  · rename_i s t e; exact ⟨s, t, e⟩
  · cases h

/-- A function of two data that gives nothing where one is a NaN does not see which NaN it is. -/
theorem canon_two {α : Type} (k : FloatKind) (f : Ieee.Datum → Ieee.Datum → Option α) (h1 : ∀ s t d, f (.nan s t) d = none) (h2 : ∀ d s t, f d (.nan s t) = none) (x y : Nat) :
    f (k.format.read (canon k x)) (k.format.read (canon k y)) = f (k.format.read x) (k.format.read y) := by
  cases hx : isnan k x with
  | true =>
    obtain ⟨s, t, e⟩ := read_nan hx
    obtain ⟨s', t', e'⟩ := read_nan (isnan_fnan k)
    rw [canon_nan hx, e, e', h1, h1]
  | false =>
    rw [canon_of hx]
    cases hy : isnan k y with
    | true =>
      obtain ⟨s, t, e⟩ := read_nan hy
      obtain ⟨s', t', e'⟩ := read_nan (isnan_fnan k)
      rw [canon_nan hy, e, e', h2, h2]
    | false => rw [canon_of hy]

theorem canon_one {α : Type} (k : FloatKind) (f : Ieee.Datum → Option α) (h1 : ∀ s t, f (.nan s t) = none) (x : Nat) : f (k.format.read (canon k x)) = f (k.format.read x) := by
  cases hx : isnan k x with
  | true =>
    obtain ⟨s, t, e⟩ := read_nan hx
    obtain ⟨s', t', e'⟩ := read_nan (isnan_fnan k)
    rw [canon_nan hx, e, e', h1, h1]
  | false => rw [canon_of hx]

theorem add_canon (k : FloatKind) (x y : Nat) : k.format.add (canon k x) (canon k y) = k.format.add x y :=
  canon_two k (fun a b => (a.sum b).map k.format.write) (by intro s t d; cases d <;> rfl) (by intro d s t; cases d <;> rfl) x y
theorem sub_canon (k : FloatKind) (x y : Nat) : k.format.sub (canon k x) (canon k y) = k.format.sub x y :=
  canon_two k (fun a b => (a.sum b.opposite).map k.format.write) (by intro s t d; cases d <;> rfl) (by intro d s t; cases d <;> rfl) x y
theorem mul_canon (k : FloatKind) (x y : Nat) : k.format.mul (canon k x) (canon k y) = k.format.mul x y :=
  canon_two k (fun a b => (a.product b).map k.format.write) (by intro s t d; cases d <;> rfl) (by intro d s t; cases d <;> rfl) x y
theorem div_canon (k : FloatKind) (x y : Nat) : k.format.div (canon k x) (canon k y) = k.format.div x y :=
  canon_two k (fun a b => (a.quotient (k.format.fractionBits + 2) b).map k.format.write) (by intro s t d; cases d <;> rfl) (by intro d s t; cases d <;> rfl) x y
theorem order_canon (k : FloatKind) (x y : Nat) : k.format.order (canon k x) (canon k y) = k.format.order x y :=
  canon_two k (fun a b => a.order b) (by intro s t d; cases d <;> rfl) (by intro d s t; cases d <;> rfl) x y
theorem sqrt_canon (k : FloatKind) (x : Nat) : k.format.sqrt (canon k x) = k.format.sqrt x :=
  canon_one k (fun a => (a.root (k.format.fractionBits + 2)).map k.format.write) (by intro s t; rfl) x

/-- The bits of a NaN that the tape gives are a NaN's. -/
theorem isnan32 {c : Nat} (h1 : 2139095040 < c % 2147483648) : isnan .f32 c = true := by
  have e1 : FloatKind.f32.format.signWeight = 2147483648 := rfl
  have e2 : FloatKind.f32.format.binade = 8388608 := rfl
  have e3 : FloatKind.f32.format.infRung = 2139095040 := rfl
  unfold isnan FloatKind.decode Ieee.Format.read
  simp only [e1, e2, e3]
  rw [if_neg (by omega), if_neg (by omega), if_neg (by omega)]
  rfl
theorem isnan64 {c : Nat} (h1 : 9218868437227405312 < c % 9223372036854775808) : isnan .f64 c = true := by
  have e1 : FloatKind.f64.format.signWeight = 9223372036854775808 := rfl
  have e2 : FloatKind.f64.format.binade = 4503599627370496 := rfl
  have e3 : FloatKind.f64.format.infRung = 9218868437227405312 := rfl
  unfold isnan FloatKind.decode Ieee.Format.read
  simp only [e1, e2, e3]
  rw [if_neg (by omega), if_neg (by omega), if_neg (by omega)]
  rfl

theorem nanBits_cut (k : FloatKind) (x y t : Nat) : isnan k ((Question.nanBits k x y).cut t) = true := by
  have h1 : t % 2 ≤ 1 := by omega
  cases k
  · have h2 : t / 2 % (2 ^ 23 - 1) < 2 ^ 23 - 1 := Nat.mod_lt _ (by decide)
    refine isnan32 ?_; simp only [Question.cut]
    generalize t % 2 = a at *; generalize t / 2 % (2 ^ 23 - 1) = b at *; omega
  · have h2 : t / 2 % (2 ^ 52 - 1) < 2 ^ 52 - 1 := Nat.mod_lt _ (by decide)
    refine isnan64 ?_; simp only [Question.cut]
    generalize t % 2 = a at *; generalize t / 2 % (2 ^ 52 - 1) = b at *; omega
theorem nanConv_cut (k : FloatKind) (x t : Nat) : isnan k ((Question.nanConv k x).cut t) = true := by
  cases k
  · exact nanBits_cut .f32 0 0 t
  · exact nanBits_cut .f64 0 0 t

theorem canon_neg (k : FloatKind) (x : Nat) : fneg k (canon k x) = canon k (Op.negFloat k x) := by
  unfold fneg
  cases hx : isnan k x with
  | false => rw [canon_of hx]
  | true =>
    have key : ∀ y, isnan k y = true → isnan k (Op.negFloat k y) = true := by
      intro y hy
      obtain ⟨s, t, e⟩ := read_nan hy
      cases k
      · have e1 : FloatKind.f32.format.signWeight = 2147483648 := rfl
        have e2 : FloatKind.f32.format.binade = 8388608 := rfl
        have e3 : FloatKind.f32.format.infRung = 2139095040 := rfl
        refine isnan32 ?_
        have hm : Op.negFloat .f32 y % 2147483648 = y % 2147483648 := by
          have := @Nat.xor_mod_two_pow y (2 ^ 31) 31
          have h2 : (2 ^ 31 % 2 ^ 31 : Nat) = 0 := by decide
          rw [h2, Nat.xor_zero] at this
          exact this
        rw [hm]
        unfold Ieee.Format.read at e
        simp only [e1, e2, e3] at e
        split at e
        · cases e
        · split at e
          · cases e
          · split at e
            · cases e
            · omega
      · have e1 : FloatKind.f64.format.signWeight = 9223372036854775808 := rfl
        have e2 : FloatKind.f64.format.binade = 4503599627370496 := rfl
        have e3 : FloatKind.f64.format.infRung = 9218868437227405312 := rfl
        refine isnan64 ?_
        have hm : Op.negFloat .f64 y % 9223372036854775808 = y % 9223372036854775808 := by
          have := @Nat.xor_mod_two_pow y (2 ^ 63) 63
          have h2 : (2 ^ 63 % 2 ^ 63 : Nat) = 0 := by decide
          rw [h2, Nat.xor_zero] at this
          exact this
        rw [hm]
        unfold Ieee.Format.read at e
        simp only [e1, e2, e3] at e
        split at e
        · cases e
        · split at e
          · cases e
          · split at e
            · cases e
            · omega
    rw [canon_nan (key _ hx), canon_nan (key _ (by rw [isnan_canon]; exact hx))]

section
variable {P : Program} (w : World)

def opRes (op : BinOp) (k : FloatKind) (x y : Nat) : Option Nat :=
  match op with | .add => k.format.add x y | .sub => k.format.sub x y | .mul => k.format.mul x y | _ => k.format.div x y

theorem run_farith (op : BinOp) (t : TypeId) (k : FloatKind) (x y r : Nat) (h : farith op k (canon k x) (canon k y) = some r) :
    ∃ c w', (binOp op t (.float k x) (.float k y)).run P w = .ok (.float k c) w' ∧ Quiet w w' ∧ canon k c = r := by
  have key : ∀ o : Option Nat, o = opRes op k x y → fin k o = r →
      ∃ c w', (binOp op t (.float k x) (.float k y)).run P w = .ok (.float k c) w' ∧ Quiet w w' ∧ canon k c = r := by
    intro o ho hr
    cases o with
    | some q =>
      refine ⟨q, w, ?_, Quiet.refl w, hr⟩
      unfold farith at h
      cases op <;> simp only [Option.some.injEq, reduceCtorEq] at h <;> simp only [opRes] at ho <;> simp [binOp, Op.floatArith, ← ho]
    | none =>
      refine ⟨(Question.nanBits k x y).cut (w.tape w.drawn (.nanBits k x y)), { w with drawn := w.drawn + 1 }, ?_, Quiet.drew w, (canon_nan (nanBits_cut k x y _)).trans hr⟩
      unfold farith at h
      cases op <;> simp only [Option.some.injEq, reduceCtorEq] at h <;> simp only [opRes] at ho <;> simp [binOp, Op.floatArith, ← ho, Question.forced]
  unfold farith at h
  cases op <;> simp only [Option.some.injEq, reduceCtorEq] at h
  · exact key _ rfl (by rw [← h, fadd, add_canon]; rfl)
  · exact key _ rfl (by rw [← h, fsub, sub_canon]; rfl)
  · exact key _ rfl (by rw [← h, fmul, mul_canon]; rfl)
  · exact key _ rfl (by rw [← h, fdiv, div_canon]; rfl)

theorem run_fcmp (op : BinOp) (t : TypeId) (k : FloatKind) (x y : Nat) (b : Bool) (h : fcmp op k (canon k x) (canon k y) = some b) :
    (binOp op t (.float k x) (.float k y)).run P w = .ok (.bool b) w := by
  unfold fcmp at h
  cases op <;> simp only [Option.some.injEq, reduceCtorEq] at h
  all_goals (subst h; simp [binOp, Op.floatCmp, feq, flt, fle, fgt, fge, order_canon, bne])

theorem run_icmp (op : BinOp) (t : TypeId) (k : IntKind) (x y : Int) (b : Bool) (h : icmp op x y = some b) :
    (binOp op t (.int k x) (.int k y)).run P w = .ok (.bool b) w := by
  unfold icmp at h
  cases op <;> simp only [Option.some.injEq, reduceCtorEq] at h
  all_goals (subst h; simp [binOp, Op.intCmp])

theorem run_iarith (op : BinOp) (t : TypeId) (k : IntKind) (x y z : Int) (h : iarith op k x y = some z) :
    (binOp op t (.int k x) (.int k y)).run P w = .ok (.int k z) w := by
  unfold iarith at h
  cases op <;> simp only [Option.some.injEq, reduceCtorEq] at h
  all_goals (subst h; simp [binOp, Op.intArith])

theorem run_idiv (op : BinOp) (t : TypeId) (k : IntKind) (x y z : Int) (h : idiv op k x y = some z) :
    (binOp op t (.int k x) (.int k y)).run P w = .ok (.int k z) w := by
  unfold idiv at h
  split at h
  · cases h
  · rename_i hy
    cases op <;> simp only [Option.some.injEq, reduceCtorEq] at h
    all_goals (subst h; simp [binOp, Op.intDiv, hy])

theorem run_ibits (op : BinOp) (t : TypeId) (k : IntKind) (x y z : Int) (h : ibits op k x y = some z) :
    (binOp op t (.int k x) (.int k y)).run P w = .ok (.int k z) w := by
  unfold ibits at h
  cases op <;> simp only [Option.some.injEq, reduceCtorEq] at h
  all_goals (subst h; simp [binOp, Op.intBits])

theorem run_ishift (op : BinOp) (t : TypeId) (k k' : IntKind) (x y z : Int) (h : ishift op k x y = some z) :
    (binOp op t (.int k x) (.int k' y)).run P w = .ok (.int k z) w := by
  unfold ishift at h
  split at h
  · cases h
  · rename_i hy
    cases op <;> simp only [Option.some.injEq, reduceCtorEq] at h
    all_goals (subst h; simp [binOp, Op.shift, hy])

theorem run_f2f (s k : FloatKind) (x r : Nat) (h : f2f s k (canon s x) = some r) :
    ∃ c w', (Conv.floatToFloat s x k).run P w = .ok (.float k c) w' ∧ Quiet w w' ∧ canon k c = r := by
  unfold f2f at h
  unfold Conv.floatToFloat
  by_cases hsk : s = k
  · subst hsk
    simp only [if_true, Option.some.injEq] at h
    exact ⟨x, w, by simp, Quiet.refl w, h⟩
  · simp only [hsk, if_false] at h ⊢
    cases hx : isnan s x with
    | true =>
      rw [canon_nan hx] at h
      obtain ⟨a, b, e⟩ := read_nan hx
      obtain ⟨a', b', e'⟩ := read_nan (isnan_fnan s)
      simp only [FloatKind.decode, e', Option.some.injEq] at h
      simp only [FloatKind.decode, e]
      refine ⟨(Question.nanConv k x).cut (w.tape w.drawn (.nanConv k x)), { w with drawn := w.drawn + 1 }, ?_, Quiet.drew w, (canon_nan (nanConv_cut k x _)).trans h⟩
      simp [Question.forced]
    | false =>
      rw [canon_of hx] at h
      cases hd : s.decode x with
      | nan a b => simp [isnan, hd, Ieee.Datum.isNaN] at hx
      | infinity a =>
        simp only [hd, Option.some.injEq] at h
        exact ⟨_, w, by simp, Quiet.refl w, h⟩
      | number a m e =>
        simp only [hd] at h
        split at h
        · cases h
        · rename_i hi
          simp only [Option.some.injEq] at h
          exact ⟨_, w, by simp [hi], Quiet.refl w, h⟩

theorem run_f2i (s : FloatKind) (k : IntKind) (x : Nat) (n : Int) (h : f2i s k (canon s x) = some n) : (Conv.floatToInt s x k).run P w = .ok (.int k n) w := by
  unfold f2i at h
  have e := canon_one s (fun d => d.toInt .zero) (by intro a b; rfl) x
  simp only [FloatKind.decode] at h
  rw [e] at h
  unfold Conv.floatToInt
  simp only [FloatKind.decode]
  split at h
  · rename_i m hm
    split at h
    · rename_i hb
      simp only [Option.some.injEq] at h
      subst h
      simp [hm, hb.1, hb.2]
    · cases h
  · cases h

end
end Vs
